/- slices.ContainsFunc over a list of numbers in any form. -/
import Derived.Test.YteenffomgdfocaamXA
import Derived.Test.YteenffomgdfocaamXC
namespace Go.Proofs.Yteenffomgdfocaa.Ai
open Go Go.Proofs
open AV renaming junk → J
open List renaming getD_cons_zero → Q0, getD_cons_succ → Q1, set_cons_zero → Q2, set_cons_succ → Q3, cons_append → Q4, length_cons → Q5, nil_append → Q6, length_nil → Q7
set_option linter.unusedVariables false
set_option linter.unusedSimpArgs false
set_option maxRecDepth 10000
section
variable {l : List Int} {v : AV} (hl : Li l v) {g : Nat} {caps : List AV} {p : Int → Bool}
include hl
theorem aPl (hp:∀ x ∈ l,∀ H,lim G0.cfg (.func g) ([.int .i64 x]++caps) H=some (.bool (p x),H)) (hm:l.length≤maxLen) (h:aA0) (n:Nat):∀ (d i m:Nat),l.length=i+d→d < m →
  aAj (aA1 (lim G0.cfg) n aAO) m ⟨[v,.fn (.func g) [] caps,J,J,J,J,J,.int .i64 l.length,.int .i64 i,J,J,J,J,J,J,J,J,J,J],h⟩ =
   match aBQ p (l.drop i) i with
   | none=>some (.exit 0,⟨[J,J,J,J,J,J,J,J,J,J,J,J,J,J,J,J,J,J,J],h⟩)
   | some j=>some (.ret,⟨[J,J,J,J,.int .i64 j,J,J,J,J,J,J,J,J,J,J,J,J,J,J],h⟩):=by
 rw [aAp] at hm
 intro d
 induction d with
 | zero =>
  intro i m h1 h2
  obtain ⟨m,rfl⟩:∃ q,m=q+1:=⟨m - 1,by omega⟩
  have e1:l.drop i=[]:=List.drop_eq_nil_iff.2 (by omega)
  have h3:¬ ((i:Int) < l.length):=by omega
  simp only [aAb,aB3,Zaf,Zag,Zah,Zak,Zal,Zan,Zao,Zap,Zaw,Zaz,Zbc,Zbm,Zbu,Zcz,Zdb,Zdg,Zdh,Q2,Q3,Q0,Q1,Zdl,decide_false,eq_self,h3,e1,aBQ]
 | succ d ih =>
  intro i m h1 h2
  obtain ⟨m,rfl⟩:∃ q,m=q+1:=⟨m - 1,by omega⟩
  have h3:i < l.length:=by omega
  have h3':(i:Int) < l.length:=by omega
  have e1:l.drop i=l[i]::l.drop (i+1):=List.drop_eq_getElem_cons h3
  have hw:=aAV (n:=i) (by omega)
  have hc:=hp l[i] (List.getElem_mem h3)
  simp only [Q4,Q6] at hc
  simp only [aAb,aB3,Zae,Zaf,Zag,Zah,Zai,Zao,Zav,Zbc,Zbd,Zbm,Zbo,Zbs,Zbu,Zcf,Zct,Zcu,Zcz,Zdb,Zdd,Zde,Q2,Q3,Q0,Q1,Zdl,Zer,decide_true,Zer,h3',e1,hl.ix _ .i64 i h3,hc,Q4,Q6,aBQ]
  cases hpx:p l[i]
  ·simp only [hw,Zae,Zaf,Zak,Zan,Zao,Zar,Zaw,Zay,Zbc,Zbm,Zbo,Zbu,Zcz,Zda,Zdb,Zdf,Zdg,Zdh,Q2,Q3,Q0,Q1,Zdi,if_false,Bool.false_eq_true]
   exact ih (i+1) m (by omega) (by omega)
  ·simp only [Zaf,Zag,Zak,Zam,Zan,Zao,Zaq,Zas,Zav,Zba,Zbm,Zbo,Zcz,Zdb,Zdf,Zdg,Zdh,Q2,Q3,Q0,Q1,if_true,eq_self]
theorem aSU (hp:∀ x ∈ l,∀ H,lim G0.cfg (.func g) ([.int .i64 x]++caps) H=some (.bool (p x),H)) (hm:l.length≤maxLen) (hcp:∀ h,aAk (freeze h 999) caps=some (caps.map fun x=>(x,true))) (H:aA0) :
  lim G0.cfg (.func 35) [v,.fn (.func g) [] caps] H=some (.int .i64 (aEw (aBQ p l 0)),H):=by
 refine aAy rfl rfl aBF (l.length+1) (fun h=>aDX (hl.fz h 999) (aLA 999 (hcp h))) ?_ (fun _=>rfl) H
 have hlp:=aPl hl hp hm [] (l.length+1) l.length 0 (l.length+1) (by omega) (by omega)
 rw [List.drop_zero,z0] at hlp
 rw [aDa]
 cases he:aBQ p l 0 <;> simp only [he] at hlp <;> simp only [Zaf,Zag,Zai,Zaj,Zak,Zam,Zan,Zao,Zaq,Zas,Zat,Zax,Zbc,Zbm,Zbo,Zck,Zcy,Zcz,Zda,Zdb,Zdf,Zdg,Zdh,Q2,Q3,Q0,Q1,Option.map_some,Q5,Q7,Nat.reduceAdd,Nat.reduceSub,Int.reduceNeg,eq_self,true_and,Q5,Q7,List.replicate_succ,List.replicate_zero,Q4,Q6,hl.len,hlp,aA6,aA5,aA7,Option.some.injEq,Prod.mk.injEq,true_and,exists_eq',aEw]
theorem aQu {caps':List AV} {bs:List (AV × Bool)} {H:aA0} (hf:aAk (freeze H 999) caps=some bs) (hbs:bs.map (·.1)=caps') (hp:∀ x ∈ l,∀ H,lim G0.cfg (.func g) ([.int .i64 x]++caps') H=some (.bool (p x),H)) (hm:l.length≤maxLen)
  (hcp:∀ h,aAk (freeze h 999) caps'=some (caps'.map fun x=>(x,true))):lim G0.cfg (.func 22) [v,.fn (.func g) [] caps] H=some (.bool (l.any p),H):=by
 have key:∃ h',aAS (lim G0.cfg) 1 aAF [v,.fn (.func g) [] caps'] []=some (.bool (l.any p),h'):=by
  rw [aCD]
  simp only [Zaf,Zag,Zam,Zan,Zao,Zbc,Zbd,Zbm,Zbo,Zbu,Zct,Zcu,Zcy,Zcz,Zda,Zdb,Zdd,Zde,Q2,Q3,Q0,Q1,Option.map_some,Zdo,Q5,Q7,Nat.reduceAdd,Nat.reduceSub,eq_self,true_and,Q5,Q7,List.replicate_succ,List.replicate_zero,Q4,Q6,aSU hl hp hm hcp,aFS,aA6,aA5,aA7,Option.some.injEq,Prod.mk.injEq,true_and,exists_eq']
 obtain ⟨h',hr⟩:=key
 subst hbs
 have h1:aAk (freeze H 1000) [v,.fn (.func g) [] caps]=some [(v,true),(.fn (.func g) [] (bs.map (·.1)),bs.all (·.2))]:=aFd (hl.fz H 999) (aGY hf)
 exact aHz rfl rfl aBv 1 h1 hr (rfl:freeze h' 1000 (.bool (l.any p))=some (.bool (l.any p),true)) (Bool.or_true _)
end
end Go.Proofs.Yteenffomgdfocaa.Ai
