/- r32_Lay: the least place. -/
import Derived.Test.YtgeedikghjcebaamXH
namespace Go.Proofs.Ytgeedikghjcebaa.Ai
open Go Go.Proofs
open AV renaming junk → J
open List renaming getD_cons_zero → Q0, getD_cons_succ → Q1
set_option linter.unusedVariables false
set_option linter.unusedSimpArgs false
set_option maxRecDepth 10000
set_option maxHeartbeats 4000000
theorem aQy {chk row:List Int} {kv rv:AV} {H:aA0} {q:Option Nat} (ho:aAi 1 (eIs chk) kv H q) (h2:Li row rv) (k:Nat) (hk1:k≤1000000000) (hk2:chk.length≤1000000000) (hm:row.length≤1000000) :
  lim G0.cfg (.func 58) [kv,rv,.int .i64 k] H=some (.bool (aCZ chk row k),H):=by
 obtain ⟨x,c,f1,f2⟩:=fzI ho 998
 obtain ⟨h',run⟩:=aTa f2 h2 k hk1 hk2 hm
 have ha:aAo (freeze H 1000) [kv,rv,.int .i64 k]=some [(x,c),(rv,true),(.int .i64 k,true)]:=by
  have e1:=h2.fz H 999
  have e2:freeze H 1000 (.int .i64 k)=some (.int .i64 k,true):=rfl
  simp only [aAo,f1,e1,e2]
 exact aH5 rfl rfl aRI (row.length+1) ha run (rfl:freeze h' 1000 (.bool _)=some (.bool _,true)) (Bool.or_true _)
section
variable {v0 v1 vv kv w2 w3 w6 w7 rv : AV} {h : aA0} {chk row : List Int} {qk : Option Nat}
theorem aUI (e1:h[1]?=some (.arr 0 4 true [[v0,v1,vv,kv]])) (ho:aAi 1 (eIs chk) kv h qk) (hr:Li row rv) (hk2:chk.length≤10000000) (hm:row.length≤1000000) (N:Nat):∀ (d k m:Nat),chk.length≤k+d→k≤chk.length→d < m →
  aAu (aA7 (lim G0.cfg) N aFo) m ⟨(J::J::w2::w3::J::.ptr 1 0 0 0::w6::w7::rv::.int .i64 k::J::J::J::J::J::J::J::J::J::J::J::J::J::J::J::J::J::J::J::J::J::J::J::J::J::J::J::J::J::J::J::J::J::J::J::J::J::J::J::J::J::J::J::J::J::J::J::J::J::J::J::J::J::J::J::J::J::J::J::J::J::J::J::J::J::J::J::J::J::J::J::J::J::J::J::J::J::J::J::J::J::J::J::J::J::J::J::J::J::J::J::J::J::J::J::[]),h⟩=some (.exit 2,⟨(J::J::w2::w3::J::.ptr 1 0 0 0::w6::w7::rv::.int .i64 (aEq chk row d k)::J::J::J::J::J::J::J::J::J::J::J::J::J::J::J::J::J::J::J::J::J::J::J::J::J::J::J::J::J::J::J::J::J::J::J::J::J::J::J::J::J::J::J::J::J::J::J::J::J::J::J::J::J::J::J::J::J::J::J::J::J::J::J::J::J::J::J::J::J::J::J::J::J::J::J::J::J::J::J::J::J::J::J::J::J::J::J::J::J::J::J::J::J::J::J::[]),h⟩):=by
 have l3:=aLe e1
 intro d
 induction d with
 | zero =>
  intro k m h1 h2 h3
  obtain ⟨m,rfl⟩:∃ q,m=q+1:=⟨m - 1,by omega⟩
  have f:=aQy ho hr k (by omega) (by omega) hm
  rw [aIO chk _ k (by omega)] at f
  rw [aEq]
  simp only [aAd,aIC,Zaf,Zag,Zah,Zak,Zal,Zan,Zao,Zap,Zaw,Zaz,Zbc,Zbd,Zbm,Zbo,Zbs,Zbv,Zcc,Zct,Zcu,Zcz,Zda,Zdb,Zdd,Zde,Zdf,Zdg,Zdh,List.set_cons_zero,List.set_cons_succ,Q0,Q1,Zdv,Zeb,Bool.not_true,Nat.reduceAdd,eq_self,List.cons_append,List.nil_append,l3,f]
 | succ d ih =>
  intro k m h1 h2 h3
  obtain ⟨m,rfl⟩:∃ q,m=q+1:=⟨m - 1,by omega⟩
  have f:=aQy ho hr k (by omega) (by omega) hm
  have hw:=aBb (n:=k) (by omega)
  rw [aEq]
  cases fb:aCZ chk row k with
  | true =>
   rw [fb] at f
   rw [cond_true]
   simp only [aAd,aIC,Zaf,Zag,Zah,Zak,Zal,Zan,Zao,Zap,Zaw,Zaz,Zbc,Zbd,Zbm,Zbo,Zbs,Zbv,Zcc,Zct,Zcu,Zcz,Zda,Zdb,Zdd,Zde,Zdf,Zdg,Zdh,List.set_cons_zero,List.set_cons_succ,Q0,Q1,Zdv,Zeb,Bool.not_true,Nat.reduceAdd,eq_self,List.cons_append,List.nil_append,l3,f]
  | false =>
   have hlt:k < chk.length:=by
    rcases Nat.lt_or_ge k chk.length with h | h
    ·exact h
    ·rw [aIO chk _ k h] at fb;cases fb
   rw [fb] at f
   rw [cond_false,← ih (k+1) m (by omega) (by omega) (by omega)]
   simp only [aAd,aIC,Zae,Zaf,Zag,Zah,Zai,Zak,Zan,Zao,Zar,Zav,Zay,Zbc,Zbd,Zbm,Zbo,Zbs,Zbu,Zbv,Zcc,Zct,Zcu,Zcz,Zda,Zdb,Zdd,Zde,Zdf,Zdg,Zdh,List.set_cons_zero,List.set_cons_succ,Q0,Q1,Zdi,Zdv,Zeb,Bool.not_false,Nat.reduceAdd,eq_self,List.cons_append,List.nil_append,l3,f,hw]
end
end Go.Proofs.Ytgeedikghjcebaa.Ai
namespace Go.Proofs.Ytgeedikghjcebaa.Ai
open Go Go.Proofs
open AV renaming junk → J
open List renaming getD_cons_zero → Q0, getD_cons_succ → Q1
set_option linter.unusedVariables false
set_option linter.unusedSimpArgs false
set_option maxRecDepth 10000
set_option maxHeartbeats 4000000
theorem aAi.putI {l:List Int} {v:AV} {h:aA0} {q:Option Nat} (ho:aAi 1 (eIs l) v h q) {j:Nat} (hj:j < l.length) (n:Int):∃ (i:Nat) (p:AV) (h':aA0),q=some i∧(∀ k:IntKind,aAP h 1 v (.int k j)=some p)∧aAw h 1 p (.int .i64 n)=some h'∧aAi 1 (eIs (l.set j n)) v h' (some i)∧(∀ (r:Nat) (o:AObj),h[r]?=some o→r≠i→h'[r]?=some o)∧h'.length=h.length:=by
 rcases ho with ⟨h1,_⟩ | ⟨h1,i,ver,h2,h3,h4⟩
 ·have:l=[]:=by cases l with | nil=>rfl | cons a l=>simp [eIs] at h1
  subst this;simp at hj
 ·subst h3
  have hi':h[i]?=some (.arr ver 1 false (eIs l++[])):=by rw [List.append_nil];exact h4
  have s:=stI hi' hj n
  rw [List.append_nil] at s
  refine ⟨i,.ptr i ver j 0,_,h2,fun k=>aBZ h4 (by rw [Zet];exact hj),s,.inr ⟨?_,i,ver,rfl,by rw [Zet,Zet,List.length_set],aAm h4⟩,fun r o e hne=>aAv e (Ne.symm hne),by simp⟩
  intro e
  have:=congrArg List.length e
  rw [Zet,List.length_set] at this
  simp at this
  subst this;simp at hj
section
variable {v0 v1 w2 w3 rx rv : AV} {row ord : List Int}
theorem aUH (hr:Li row rv) (hm:row.length≤1000000) (ho:Li ord rx) (ip a:Nat) (hip:ip < ord.length) (hao:ord[ip]=(a:Int)) (ha:a≤10000000) (b T N:Nat) (hb:b+row.length≤9000000) (hT:2≤T) (hN:10000001≤N) :
  ∀ (d i m:Nat) (s:List Int × List Int) (h:aA0) (vv kv:AV) (qv qk:Option Nat),row.length=i+d→d < m→h[1]?=some (.arr 0 4 true [[v0,v1,vv,kv]])→aAi 1 (eIs s.1) vv h qv→aAi 1 (eIs s.2) kv h qk→s.2.length=s.1.length→s.1.length≤10000000→(∀ i,qv=some i→T≤i)→(∀ i,qk=some i→T≤i)→(∀ i,qv=some i→qk≠some i)→T≤h.length →
  ∃ (h':aA0) (vv' kv':AV) (qv' qk':Option Nat),aAu (aA7 (lim G0.cfg) N aFn) m ⟨(J::J::w2::w3::J::.ptr 1 0 0 0::rx::.int .i64 ip::rv::.int .i64 b::.int .i64 i::J::J::J::J::J::J::J::J::J::J::J::J::J::J::J::J::J::J::J::J::J::J::J::J::J::J::J::J::J::J::J::J::J::J::J::J::J::J::J::J::J::J::J::J::J::J::J::J::J::J::J::J::J::J::J::J::J::J::J::J::J::J::J::J::J::J::J::J::J::J::J::J::J::J::J::J::J::J::J::J::J::J::J::J::J::J::J::J::J::J::J::J::J::J::[]),h⟩=some (.exit 4,⟨(J::J::w2::w3::J::.ptr 1 0 0 0::rx::.int .i64 ip::J::J::J::J::J::J::J::J::J::J::J::J::J::J::J::J::J::J::J::J::J::J::J::J::J::J::J::J::J::J::J::J::J::J::J::J::J::J::J::J::J::J::J::J::J::J::J::J::J::J::J::J::J::J::J::J::J::J::J::J::J::J::J::J::J::J::J::J::J::J::J::J::J::J::J::J::J::J::J::J::J::J::J::J::J::J::J::J::J::J::J::J::J::J::J::J::J::[]),h'⟩) ∧
   h'[1]?=some (.arr 0 4 true [[v0,v1,vv',kv']])∧aAi 1 (eIs (aD4 s (row.drop i) (b+i) ((a+1:Nat):Int)).1) vv' h' qv'∧aAi 1 (eIs (aD4 s (row.drop i) (b+i) ((a+1:Nat):Int)).2) kv' h' qk'∧(∀ (p:Nat) (o:AObj),p < T→p≠1→h[p]?=some o→h'[p]?=some o)∧(∀ i,qv'=some i→T≤i)∧(∀ i,qk'=some i→T≤i)∧(∀ i,qv'=some i→qk'≠some i)∧T≤h'.length:=by
 have lr:=hr.len
 have xo:=fun h=>ho.ix h .i64 ip hip
 have lv:∀ (h:aA0) (z:Int),aAc h 1 false (.vptr [.int .i64 z] 0)=some (.int .i64 z):=fun _ _=>rfl
 have hw4:=aBb (n:=a) (by omega)
 intro d
 induction d with
 | zero =>
  intro i m s h vv kv qv qk h1 h2 e1 gv gk l0 l1 d1 d2 d3 hT2
  obtain ⟨m,rfl⟩:∃ q,m=q+1:=⟨m - 1,by omega⟩
  have h3:¬ ((i:Int) < row.length):=by omega
  have q1:row.drop i=[]:=List.drop_eq_nil_iff.2 (by omega)
  rw [q1]
  refine ⟨h,vv,kv,qv,qk,?_,e1,gv,gk,fun _ _ _ _ e=>e,d1,d2,d3,hT2⟩
  simp only [aAd,aIB,Zaf,Zag,Zah,Zak,Zal,Zan,Zao,Zap,Zaw,Zaz,Zbc,Zbm,Zbo,Zbu,Zck,Zcz,Zdb,Zdf,Zdg,Zdh,List.set_cons_zero,List.set_cons_succ,Q0,Q1,Zdl,decide_false,eq_self,lr,h3]
 | succ d ih =>
  intro i m s h vv kv qv qk h1 h2 e1 gv gk l0 l1 d1 d2 d3 hT2
  obtain ⟨m,rfl⟩:∃ q,m=q+1:=⟨m - 1,by omega⟩
  have h3:i < row.length:=by omega
  have h3':(i:Int) < row.length:=by omega
  have hw:=aBb (n:=i) (by omega)
  have hw2:=aNC (a:=b) (b:=i) (by omega)
  have q1:row.drop i=row[i]::row.drop (i+1):=List.drop_eq_getElem_cons h3
  have xa:=fun h=>hr.ix h .i64 i h3
  rw [q1,aD4]
  by_cases z:row[i]=0
  case pos =>
   have g2:decide (row[i]=0)=true:=decide_eq_true z
   rw [if_pos z]
   obtain ⟨h',vv',kv',qv',qk',e,r⟩:=ih (i+1) m s h vv kv qv qk (by omega) (by omega) e1 gv gk l0 l1 d1 d2 d3 hT2
   refine ⟨h',vv',kv',qv',qk',?_,r⟩
   rw [← e]
   simp only [aAd,aIB,Zae,Zaf,Zag,Zah,Zai,Zak,Zal,Zan,Zao,Zap,Zat,Zav,Zay,Zbc,Zbm,Zbo,Zbs,Zbu,Zcf,Zck,Zcz,Zda,Zdb,Zdf,Zdg,Zdh,List.set_cons_zero,List.set_cons_succ,Q0,Q1,Zdi,Zdl,Zdp,Zer,decide_true,eq_self,lr,h3',xa,g2,hw]
  case neg =>
   have g2:decide (row[i]=0)=false:=decide_eq_false z
   rw [if_neg z]
   obtain ⟨H1,vv1,kv1,qv1,qk1,e3,f1,f2,f3,f4,f5,f6,f7,f8⟩:=aUG (v0:=v0) (v1:=v1) (w2:=w2) (w3:=w3) (w6:=rx) (w7:=.int .i64 ip) (w8:=rv) T b i N hT (by omega) (max s.1.length (b+i+1) - s.1.length) N s.1 s.2 h vv kv qv qk (by omega) (by omega) l0 l1 e1 gv gk d1 d2 d3 hT2
   have lv4:b+i < (aD2 s.1 (b+i+1)).length:=by rw [aDK];omega
   have lk4:b+i < (aD2 s.2 (b+i+1)).length:=by rw [aDK];omega
   obtain ⟨iv,pv,H2,qiv,xv,s5,gv5,fr5,n5⟩:=f2.putI lv4 row[i]
   subst qiv
   have b1:=fr5 1 _ f1 (by have:=f5 iv rfl;omega)
   have gk5:aAi 1 (eIs (aD2 s.2 (b+i+1))) kv1 H2 qk1:=f3.frame fun j o f e=>fr5 j o e (fun g=>f7 iv rfl (by rw [← g];exact f))
   obtain ⟨ik,pk,H3,qik,xk,s6,gk6,fr6,n6⟩:=gk5.putI lk4 ((a+1:Nat):Int)
   subst qik
   have hne:iv≠ik:=fun g=>f7 iv rfl (by rw [g])
   have gv6:aAi 1 (eIs (aHc s.1 (b+i) row[i])) vv1 H3 (some iv):=gv5.frame fun j o f e=>fr6 j o e (by cases f;exact hne)
   have c1:=fr6 1 _ b1 (by have:=f6 ik rfl;omega)
   obtain ⟨h',vv',kv',qv',qk',e,r1,r2,r3,r4,r5,r6,r7,r8⟩:=ih (i+1) m (aHc s.1 (b+i) row[i],aHc s.2 (b+i) ((a+1:Nat):Int)) H3 vv1 kv1 (some iv) (some ik) (by omega) (by omega) c1 gv6 gk6 (by simp only [aGo,l0]) (by rw [aGo];omega) f5 f6 f7 (by omega)
   refine ⟨h',vv',kv',qv',qk',?_,r1,r2,r3,fun p o t1 t2 eo=>r4 p o t1 t2 (fr6 p o (fr5 p o (f4 p o t1 t2 eo) (by have:=f5 iv rfl;omega)) (by have:=f6 ik rfl;omega)),r5,r6,r7,r8⟩
   rw [← e]
   have la:=aLf f1
   have lb:=aLe b1
   simp only [aAd,aIB,Zae,Zaf,Zag,Zah,Zai,Zaj,Zak,Zan,Zao,Zar,Zat,Zav,Zaw,Zax,Zay,Zbc,Zbe,Zbm,Zbo,Zbs,Zbt,Zbu,Zcc,Zcf,Zck,Zcz,Zda,Zdb,Zdc,Zdf,Zdg,Zdh,List.set_cons_zero,List.set_cons_succ,Q0,Q1,Zdi,Zdl,Zdp,Zeb,Zer,decide_true,Nat.reduceAdd,eq_self,lr,h3',xa,xo,hao,g2,hw,hw2,hw4,e3,la,lb,xv,xk,s5,s6]
end
end Go.Proofs.Ytgeedikghjcebaa.Ai
namespace Go.Proofs.Ytgeedikghjcebaa.Ai
open Go Go.Proofs
open AV renaming junk → J
set_option linter.unusedVariables false
set_option linter.unusedSimpArgs false
set_option maxRecDepth 10000
set_option maxHeartbeats 4000000
section
variable {own : List (List Int)} {ord : List Int} {v0 bv w2 ox rx : AV}
theorem aUJ (hv:LiR own ox) (ho:Li ord rx) (M:Nat) (hM:∀ r ∈ own,r.length≤M) (hM1:M≤1000000) (hM2:own.length*M+M≤9000000) (hn:own.length≤10000000) (hol:ord.length=own.length) (hom:∀ x ∈ ord,0≤x∧x < own.length) (T N:Nat) (hT:2≤T) (hN:10000001≤N) (qb:Option Nat) (hqb:∀ i,qb=some i→i < T∧2≤i) :
  ∀ (d i m:Nat) (s:List Int × List Int × List Int) (h:aA0) (vv kv:AV) (qv qk:Option Nat),ord.length=i+d→d < m→h[1]?=some (.arr 0 4 true [[v0,bv,vv,kv]])→aAi 1 (eIs s.1) bv h qb→s.1.length=own.length →
   aAi 1 (eIs s.2.1) vv h qv→aAi 1 (eIs s.2.2) kv h qk→s.2.1.length=s.2.2.length→s.2.1.length≤i*M→(∀ i,qv=some i→T≤i)→(∀ i,qk=some i→T≤i)→(∀ i,qv=some i→qk≠some i)→T≤h.length →
   ∃ (h':aA0) (vv' kv':AV) (qv' qk':Option Nat),aAu (aA7 (lim G0.cfg) N aFp) m ⟨(J::J::w2::ox::J::.ptr 1 0 0 0::rx::.int .i64 i::J::J::J::J::J::J::J::J::J::J::J::J::J::J::J::J::J::J::J::J::J::J::J::J::J::J::J::J::J::J::J::J::J::J::J::J::J::J::J::J::J::J::J::J::J::J::J::J::J::J::J::J::J::J::J::J::J::J::J::J::J::J::J::J::J::J::J::J::J::J::J::J::J::J::J::J::J::J::J::J::J::J::J::J::J::J::J::J::J::J::J::J::J::J::J::J::J::[]),h⟩=some (.exit 0,⟨(J::J::w2::J::J::.ptr 1 0 0 0::J::J::J::J::J::J::J::J::J::J::J::J::J::J::J::J::J::J::J::J::J::J::J::J::J::J::J::J::J::J::J::J::J::J::J::J::J::J::J::J::J::J::J::J::J::J::J::J::J::J::J::J::J::J::J::J::J::J::J::J::J::J::J::J::J::J::J::J::J::J::J::J::J::J::J::J::J::J::J::J::J::J::J::J::J::J::J::J::J::J::J::J::J::J::J::J::J::J::J::[]),h'⟩) ∧
    h'[1]?=some (.arr 0 4 true [[v0,bv,vv',kv']])∧aAi 1 (eIs ((ord.drop i).foldl (aBd own) s).1) bv h' qb∧aAi 1 (eIs ((ord.drop i).foldl (aBd own) s).2.1) vv' h' qv'∧aAi 1 (eIs ((ord.drop i).foldl (aBd own) s).2.2) kv' h' qk' ∧
    (∀ (j:Nat) (o:AObj),j < T→j≠1→qb≠some j→h[j]?=some o→h'[j]?=some o):=by
 have lo:=ho.len
 intro d
 induction d with
 | zero =>
  intro i m s h vv kv qv qk h1 h2 e1 ob lb gv gk l1 l2 d1 d2 d3 hl
  obtain ⟨m,rfl⟩:∃ q,m=q+1:=⟨m - 1,by omega⟩
  have h3:¬ ((i:Int) < ord.length):=by omega
  have q1:ord.drop i=[]:=List.drop_eq_nil_iff.2 (by omega)
  rw [q1,List.foldl_nil]
  refine ⟨h,vv,kv,qv,qk,?_,e1,ob,gv,gk,fun _ _ _ _ _ e=>e⟩
  simp only [aAd,aKW,Zaf,Zag,Zah,Zak,Zal,Zan,Zao,Zap,Zaw,Zaz,Zbc,Zbm,Zbo,Zbu,Zck,Zcz,Zdb,Zdf,Zdg,Zdh,List.set_cons_zero,List.set_cons_succ,List.getD_cons_zero,List.getD_cons_succ,Zdl,decide_false,eq_self,lo,h3]
 | succ d ih =>
  intro i m s h vv kv qv qk h1 h2 e1 ob lb gv gk l1 l2 d1 d2 d3 hl
  obtain ⟨m,rfl⟩:∃ q,m=q+1:=⟨m - 1,by omega⟩
  have h3:i < ord.length:=by omega
  have h3':(i:Int) < ord.length:=by omega
  have hw:=aBb (n:=i) (by omega)
  have q1:ord.drop i=ord[i]::ord.drop (i+1):=List.drop_eq_getElem_cons h3
  have hx:=hom _ (List.getElem_mem h3)
  obtain ⟨a,ha⟩:∃ a:Nat,ord[i]=(a:Int):=⟨ord[i].toNat,by omega⟩
  have xo:=fun h=>ho.ix h .i64 i h3
  rw [ha] at hx xo
  have hao:a < own.length:=by omega
  have gd:own.getD a []=own[a]:=by simp [hao]
  have hmr:=hM _ (List.getElem_mem hao)
  have hmul:(i+1)*M≤own.length*M:=Nat.mul_le_mul_right M (by omega)
  have hsucc:(i+1)*M=i*M+M:=Nat.succ_mul i M
  rw [q1,List.foldl_cons,ha]
  obtain ⟨rv,r2,xr⟩:=hv.ix a hao
  have lvI:∀ (h:aA0) (z:Int),aAc h 1 false (.vptr [.int .i64 z] 0)=some (.int .i64 z):=fun _ _=>rfl
  have lvR:∀ (h:aA0),aAc h 1 false (.vptr [rv] 0)=some rv:=fun _=>rfl
  have bs:=aUI (v0:=v0) (v1:=bv) (w2:=w2) (w3:=ox) (w6:=rx) (w7:=.int .i64 i) e1 gk r2 (by omega) (by omega) N s.2.2.length 0 N (by omega) (by omega) (by omega)
  rw [z0] at bs
  obtain ⟨b,hb⟩:∃ b,b=aHW s.2.2 own[a]:=⟨_,rfl⟩
  have bs':aEq s.2.2 own[a] s.2.2.length 0=b:=hb.symm
  rw [bs'] at bs
  have hb1:b≤s.2.2.length:=by rw [hb];exact aJS _ _
  have lb1:=aRo e1
  obtain ⟨ib,pb,H2,qib,xb,sb,ob2,fr2,n2⟩:=ob.putI (j:=a) (by omega) (b:Int)
  subst qib
  have hib:=hqb ib rfl
  have b1:=fr2 1 _ e1 (by omega)
  have gv2:=gv.frame (h':=H2) fun j o f e=>fr2 j o e (by have:=d1 j f;omega)
  have gk2:=gk.frame (h':=H2) fun j o f e=>fr2 j o e (by have:=d2 j f;omega)
  obtain ⟨H3,vv3,kv3,qv3,qk3,e,c1,c2,c3,c4,c5,c6,c7,c8⟩:=aUH (v0:=v0) (v1:=bv) (w2:=w2) (w3:=ox) r2 (by omega) ho i a h3 ha (by omega) b T N (by omega) hT hN own[a].length 0 N s.2 H2 vv kv qv qk (by omega) (by omega) b1 gv2 gk2 l1.symm (by omega) d1 d2 d3 (by omega)
  rw [z0] at e
  rw [List.drop_zero,Nat.add_zero] at c2 c3
  have es:aBd own s ((a:Nat):Int)=(s.1.set a (b:Int),aD4 s.2 own[a] b ((a+1:Nat):Int)):=by
   simp only [aBd,Int.toNat_natCast,gd,← hb]
   rfl
  have pl:=aHR own[a] s.2 b ((a+1:Nat):Int) l1
  have ob3:=ob2.frame (h':=H3) fun j o f e=>c4 j o (by cases f;omega) (by cases f;omega) e
  obtain ⟨h',vv',kv',qv',qk',e',g1,g2,g3,g4,g5⟩:=ih (i+1) m (aBd own s ((a:Nat):Int)) H3 vv3 kv3 qv3 qk3 (by omega) (by omega) c1 (by rw [es];exact ob3) (by rw [es,List.length_set];exact lb) (by rw [es];exact c2) (by rw [es];exact c3) (by rw [es];exact pl.1) (by rw [es];exact Nat.le_trans pl.2 (Nat.max_le.2 ⟨by omega,by omega⟩)) c5 c6 c7 c8
  refine ⟨h',vv',kv',qv',qk',?_,g1,g2,g3,g4,fun j o t1 t2 t3 eo=>g5 j o t1 t2 t3 (c4 j o t1 t2 (fr2 j o eo fun f=>t3 (by rw [f])))⟩
  rw [← e']
  simp only [aAd,aKW,Zae,Zaf,Zag,Zah,Zai,Zaj,Zak,Zan,Zao,Zar,Zat,Zav,Zax,Zay,Zbc,Zbe,Zbm,Zbo,Zbs,Zbt,Zbu,Zcc,Zcf,Zck,Zcz,Zda,Zdb,Zdc,Zdf,Zdg,Zdh,List.set_cons_zero,List.set_cons_succ,List.getD_cons_zero,List.getD_cons_succ,Zdi,Zdl,Zeb,Zer,decide_true,Nat.reduceAdd,eq_self,lo,h3',xo,xr,lvR,bs,lb1,xb,sb,e,hw]
end
end Go.Proofs.Ytgeedikghjcebaa.Ai
namespace Go.Proofs.Ytgeedikghjcebaa.Ai
open Go Go.Proofs
open List renaming replicate → Q0
set_option linter.unusedVariables false
set_option linter.unusedSimpArgs false
set_option maxRecDepth 10000
set_option maxHeartbeats 4000000
theorem aRM (h:aA0) (n:Nat) (hn:n≤1000000):∃ (bv:AV) (h':aA0) (qb:Option Nat),aPz h 1 8 [.int .i64 0] .nilS (.int .i64 n)=some (bv,h')∧aAi 1 (eIs (Q0 n 0)) bv h' qb∧(∀ i,qb=some i→i=h.length∧h.length < h'.length)∧(∀ (j:Nat) (o:AObj),h[j]?=some o→h'[j]?=some o)∧h.length≤h'.length:=by
 by_cases z:n=0
 ·subst z
  exact ⟨.nilS,h,none,rfl,aAi.nil 1 h,fun _ e=>(by cases e),fun _ _ e=>e,Nat.le_refl _⟩
 ·have c:(Q0 n [AV.int .i64 0]).length*(8+1)≤68719476736∧(Q0 n [AV.int .i64 0]).all (fun c=>c.length==1 && c.all aAq)=true:=⟨by simp;omega,aRN n⟩
  refine ⟨.hsl h.length 0 0 n none,h++[.arr 0 1 false (eIs (Q0 n 0))],some h.length,?_,.inr ⟨?_,h.length,0,rfl,by rw [Zet];simp,aBp _ _⟩,fun i e=>(by cases e;simp),fun j o e=>aAJ e _,by simp⟩
  ·have z1:¬ ((n:Int)=0):=by omega
   have z2:(0:Int) < n:=by omega
   simp only [aPz]
   rw [if_neg z1,if_pos z2,Int.toNat_natCast,aC4,if_pos c,aIQ,List.length_replicate]
  ·rw [aIQ]
   intro e
   have:=congrArg List.length e
   simp at this
   exact z this
theorem aU2 {rows:List (List Int)} {v:AV} (hv:LiR rows v) (M:Nat) (hM:∀ r ∈ rows,r.length≤M) (hM1:M≤1000000) (hn:rows.length≤900000) (hM2:rows.length*M+M≤9000000):∃ cs,RT (aFv rows) cs∧∀ H,lim G0.cfg (.func 50) [v] H=some (.agg cs,H):=by
 obtain ⟨ox,ix,hox,hix,fD⟩:=aR3 hv (fun r hr=>Nat.le_trans (hM r hr) hM1) (by omega)
 have dl:=aKD rows ([],[])
 have hD:rows.foldl aB2 ([],[])=aAI rows:=rfl
 rw [hD] at dl
 simp only [List.length_nil,Nat.zero_add] at dl
 have dm:∀ r ∈ (aAI rows).1,r.length≤M:=fun r hr=>by
  rcases aKC rows ([],[]) r (by rw [hD];exact hr) with h | h
  ·simp at h
  ·exact hM r h
 have hmulo:(aAI rows).1.length*M≤rows.length*M:=Nat.mul_le_mul_right M dl.1
 obtain ⟨rx,hrx,fO⟩:=aUC hox (fun r hr=>Nat.le_trans (dm r hr) hM1) (by omega)
 obtain ⟨op,_⟩:=aKt (aAI rows).1
 obtain ⟨h1,hh1⟩:∃ H:aA0,H=[.arr 0 4 true [[.nilS,.nilS,.nilS,.nilS]],.arr 0 4 true [[ix,.nilS,.nilS,.nilS]]]:=⟨_,rfl⟩
 obtain ⟨bv,h2,qb,az,ob,hqb,fr2,l2⟩:=aRM h1 (aAI rows).1.length (by omega)
 have len1:h1.length=2:=by rw [hh1];rfl
 have e1:h1[1]?=some (.arr 0 4 true [[ix,.nilS,.nilS,.nilS]]):=by rw [hh1];rfl
 have e12:=fr2 1 _ e1
 have sb:=aUc e12 ob.cell
 obtain ⟨h3,hh3⟩:∃ H,H=h2.set 1 (.arr 0 4 true [[ix,bv,.nilS,.nilS]]):=⟨_,rfl⟩
 rw [← hh3] at sb
 have e13:h3[1]?=some (.arr 0 4 true [[ix,bv,.nilS,.nilS]]):=by rw [hh3];exact aAm e12
 have ob3:=ob.frame (h':=h3) fun i o f e=>by rw [hh3];exact aAv e (by have:=hqb i f;omega)
 have e03:h3[0]?=some (.arr 0 4 true [[.nilS,.nilS,.nilS,.nilS]]):=by
  rw [hh3];exact aAv (fr2 0 _ (by rw [hh1];rfl)) (by omega)
 have len3:h3.length=h2.length:=by rw [hh3,List.length_set]
 have hol:(aCL (aAI rows).1).length=(aAI rows).1.length:=by rw [op.length_eq,aDC]
 obtain ⟨h4,vv,kv,qv,qk,e,g1,g2,g3,g4,g5⟩:=aUJ (v0:=ix) (bv:=bv) (w2:=.ptr 0 0 0 0) hox hrx M dm hM1 (by omega) (by omega) hol (fun x hx=>aKy.1 (op.mem_iff.1 hx)) h3.length 10000001 (by omega) (by omega) qb (fun i f=>by have:=hqb i f;omega)
  (aCL (aAI rows).1).length 0 10000001 (Q0 (aAI rows).1.length 0,[],[]) h3 .nilS .nilS none none (by omega) (by omega) e13 ob3 (by simp) (aAi.nil 1 _) (aAi.nil 1 _) rfl (by simp) (fun _ e=>(by cases e)) (fun _ e=>(by cases e)) (fun _ e=>(by cases e)) (Nat.le_refl _)
 rw [z0] at e
 rw [List.drop_zero] at g2 g3 g4
 have hlay:(aCL (aAI rows).1).foldl (aBd (aAI rows).1) (Q0 (aAI rows).1.length 0,[],[])=aJ0 (aAI rows).1 (aCL (aAI rows).1):=rfl
 rw [hlay] at g2 g3 g4
 have e04:=g5 0 _ (by omega) (by omega) (fun f=>by have:=hqb 0 f;omega) e03
 have ic:=hix.cell
 have l9:aAc h4 4 true (.ptr 1 0 0 0)=some (.agg [ix,bv,vv,kv]):=by rw [aAV h4 4 1 0 0 0 true 4 true _ _ g1 rfl];rfl
 have s9:aAw h4 4 (.ptr 0 0 0 0) (.agg [ix,bv,vv,kv])=some (h4.set 0 (.arr 0 4 true [[ix,bv,vv,kv]])):=by
  simp [aAw,aAx,aAe,e04,cellsOf,ic.2,g2.cell.2,g3.cell.2,g4.cell.2]
 have e05:=aAm (y:=AObj.arr 0 4 true [[ix,bv,vv,kv]]) e04
 have l0:aAc (h4.set 0 (.arr 0 4 true [[ix,bv,vv,kv]])) 4 true (.ptr 0 0 0 0)=some (.agg [ix,bv,vv,kv]):=by rw [aAV _ 4 0 0 0 0 true 4 true _ _ e05 rfl];rfl
 have lo:=hox.len
 have lb1:=aRo e1
 have st1:aAw [.arr 0 4 true [[.nilS,.nilS,.nilS,.nilS]],.arr 0 4 true [[.nilS,.nilS,.nilS,.nilS]]] 4 (.ptr 1 0 0 0) (.agg [ix,.nilS,.nilS,.nilS])=some h1:=by
  rw [hh1];simp [aAw,aAx,aAe,cellsOf,ic.2,aWJ]
 have run:aAW (lim G0.cfg) 10000001 aHb [v] []=some (.agg [ix,bv,vv,kv],h4.set 0 (.arr 0 4 true [[ix,bv,vv,kv]])):=by
  rw [aSU]
  simp only [Zaf,Zag,Zai,Zaj,Zak,Zam,Zan,Zao,Zat,Zax,Zbc,Zbd,Zbe,Zbm,Zbo,Zbq,Zbs,Zbt,Zcc,Zcj,Zck,Zcn,Zcq,Zct,Zcu,Zcy,Zcz,Zda,Zdb,Zdc,Zdd,Zde,Zdf,Zdg,Zdh,List.set_cons_zero,List.set_cons_succ,List.getD_cons_zero,List.getD_cons_succ,Option.map_some,Zeb,List.getElem?_cons_zero,List.getElem?_cons_succ,List.length_cons,List.length_nil,if_true,Nat.reduceAdd,Nat.reduceSub,Nat.reduceLeDiff,eq_self,and_self,List.length_cons,List.length_nil,List.replicate_succ,List.replicate_zero,List.cons_append,List.nil_append,List.nil_append,fD,fO,aNU,aCK,evp,ic.1,aAH,Nat.zero_lt_one,if_true,Option.map_some,List.take_zero,List.drop_succ_cons,List.drop_zero,aAx,st1,lb1,lo,az,sb,e,l9,s9,l0,aA5,aA4,aA8]
 have fr0:∀ (l:List Int) (w:AV) (q:Option Nat),aAi 1 (eIs l) w h4 q→aAi 1 (eIs l) w (h4.set 0 (.arr 0 4 true [[ix,bv,vv,kv]])) q:=fun l w q o=>by
  rcases o with o | ⟨a,i,ver,b,c,d⟩
  ·exact .inl o
  ·exact .inr ⟨a,i,ver,b,c,aAv d (fun f=>by subst f;rw [e04] at d;cases d)⟩
 obtain ⟨x2,c2,f2,y2⟩:=fzI (fr0 _ _ _ g2) 997
 obtain ⟨x3,c3,f3,y3⟩:=fzI (fr0 _ _ _ g3) 997
 obtain ⟨x4,c4,f4,y4⟩:=fzI (fr0 _ _ _ g4) 997
 have f1:=hix.fz (h4.set 0 (.arr 0 4 true [[ix,bv,vv,kv]])) 998
 have fz:freeze (h4.set 0 (.arr 0 4 true [[ix,bv,vv,kv]])) 1000 (.agg [ix,bv,vv,kv])=some (.agg [ix,x2,x3,x4],([(ix,true),(x2,c2),(x3,c3),(x4,c4)]:List (AV × Bool)).all (·.2)):=by
  have:freeze (h4.set 0 (.arr 0 4 true [[ix,bv,vv,kv]])) 1000 (.agg [ix,bv,vv,kv])=(aAo (freeze (h4.set 0 (.arr 0 4 true [[ix,bv,vv,kv]])) 999) [ix,bv,vv,kv]).map fun l=>(.agg (l.map (·.1)),l.all (·.2)):=rfl
  rw [this]
  have m:aAo (freeze (h4.set 0 (.arr 0 4 true [[ix,bv,vv,kv]])) 999) [ix,bv,vv,kv]=some [(ix,true),(x2,c2),(x3,c3),(x4,c4)]:=by simp only [aAo,f1,f2,f3,f4]
  rw [m]
  rfl
 exact ⟨[ix,x2,x3,x4],⟨ix,x2,x3,x4,rfl,hix,y2,y3,y4⟩,fun H=>aH5 rfl rfl aSY 10000001 (aCG (hv.fz H 999)) run fz rfl⟩
end Go.Proofs.Ytgeedikghjcebaa.Ai
