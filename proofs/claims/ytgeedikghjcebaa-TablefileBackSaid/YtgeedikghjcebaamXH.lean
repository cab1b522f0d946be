/- The reference of pack.Lay: the order. -/
import Derived.Test.YtgeedikghjcebaamXG
import Derived.Test.YtgeedikghjcebaamXB
namespace Go.Proofs.Ytgeedikghjcebaa.Ai
open Go Go.Proofs
open AV renaming junk → J
open List renaming getD_cons_zero → Q0, getD_cons_succ → Q1, set_cons_zero → Q2, set_cons_succ → Q3
set_option linter.unusedVariables false
set_option linter.unusedSimpArgs false
set_option maxRecDepth 10000
set_option maxHeartbeats 4000000
def aM3 (own:List (List Int)) (x:Int):Nat:=aBL (own.getD x.toNat [])
def aBH (own:List (List Int)) (i x:Int):Bool:=decide (aM3 own i≤aM3 own x)
def aDW (own:List (List Int)) (l:List Int) (i:Int):List Int:=l.takeWhile (aBH own i)++i::l.dropWhile (aBH own i)
def aCL (own:List (List Int)):List Int:=(aBQ own.length).foldl (aDW own) []
theorem aPl {l:List Int} {j:Nat} (hj:j < l.length):(eIs l)[j]?=some [.int .i64 l[j]]:=by simp [eIs,eI,hj]
theorem aDk (l:List Int) (x:Int):eIs (l++[x])=eIs l++[[.int .i64 x]]:=by rw [aEi];rfl
section
variable {own : List (List Int)} {v : AV}
theorem aUE (hv:LiR own v) (hm:∀ r ∈ own,r.length≤1000000) (hn:own.length≤1000000) (i:Nat) (hi:i < own.length) (l:List Int) (hl:l.length≤1000000) (hlm:∀ x ∈ l,0≤x∧x < own.length) (t3:AV) (q3:Option Nat) (N:Nat) :
  ∀ (d k m:Nat) (pre:List Int) (h:aA0) (t5:AV) (q5:Option Nat),l.length=k+d→d < m→aAi 1 (eIs l) t3 h q3→aAi 1 (eIs pre) t5 h q5→(∀ i,q5=some i→q3≠some i)→pre.length≤k →
   ∃ (h':aA0) (t5':AV) (q5':Option Nat),aAu (aA7 (lim G0.cfg) N aEu) m ⟨(v::J::J::t3::.int .i64 i::t5::.int .i64 k::J::J::J::J::J::J::J::J::J::J::J::J::J::J::J::J::J::J::J::J::J::J::J::J::J::J::J::J::J::J::J::J::J::J::J::J::J::J::J::J::J::J::J::J::J::J::J::J::J::J::J::J::J::J::[]),h⟩=some (.exit 2,⟨(v::J::J::t3::.int .i64 i::t5'::.int .i64 ((k+((l.drop k).takeWhile (aBH own i)).length:Nat):Int)::J::J::J::J::J::J::J::J::J::J::J::J::J::J::J::J::J::J::J::J::J::J::J::J::J::J::J::J::J::J::J::J::J::J::J::J::J::J::J::J::J::J::J::J::J::J::J::J::J::J::J::J::J::J::[]),h'⟩)∧aAi 1 (eIs (pre++(l.drop k).takeWhile (aBH own i))) t5' h' q5'∧aAi 1 (eIs l) t3 h' q3∧(∀ i,q5'=some i→q3≠some i):=by
 obtain ⟨wi,hwi,xwi⟩:=hv.ix i hi
 have fi:=aS9 hwi (by have:=hm _ (List.getElem_mem hi);omega)
 have lv:∀ (w:AV) (h:aA0),aAc h 1 false (.vptr [w] 0)=some w:=fun _ _=>rfl
 have gi:aM3 own i=aBL own[i]:=by simp [aM3,hi]
 intro d
 induction d with
 | zero =>
  intro k m pre h t5 q5 h1 h2 o3 o5 hq hp
  obtain ⟨m,rfl⟩:∃ q,m=q+1:=⟨m - 1,by omega⟩
  have lo:=o3.len h
  rw [Zet] at lo
  have h3:¬ ((k:Int) < l.length):=by omega
  have q1:l.drop k=[]:=List.drop_eq_nil_iff.2 (by omega)
  have z:((k+([]:List Int).length:Nat):Int)=k:=rfl
  rw [q1,List.takeWhile_nil,z,List.append_nil]
  refine ⟨h,t5,q5,?_,o5,o3,hq⟩
  simp only [aAd,aGK,Zaf,Zag,Zah,Zak,Zal,Zan,Zao,Zap,Zaw,Zaz,Zbc,Zbi,Zbl,Zbm,Zbn,Zbo,Zbp,Zbu,Zck,Zcz,Zda,Zdb,Zdf,Zdg,Zdh,Q2,Q3,Q0,Q1,Zdl,decide_false,eq_self,lo,h3]
 | succ d ih =>
  intro k m pre h t5 q5 h1 h2 o3 o5 hq hp
  obtain ⟨m,rfl⟩:∃ q,m=q+1:=⟨m - 1,by omega⟩
  have lo:=o3.len h
  rw [Zet] at lo
  have h3:k < l.length:=by omega
  have h3':(k:Int) < l.length:=by omega
  have hw:=aBb (n:=k) (by omega)
  have q1:l.drop k=l[k]::l.drop (k+1):=List.drop_eq_getElem_cons h3
  have hx:=hlm _ (List.getElem_mem h3)
  obtain ⟨a,ha⟩:∃ a:Nat,l[k]=(a:Int):=⟨l[k].toNat,by omega⟩
  obtain ⟨p,p1,p2⟩:=o3.ix1 (aPl h3)
  rw [ha] at p2 hx
  have hao:a < own.length:=by omega
  obtain ⟨wa,hwa,xwa⟩:=hv.ix a hao
  have fa:=aS9 hwa (by have:=hm _ (List.getElem_mem hao);omega)
  have ga:aM3 own a=aBL own[a]:=by simp [aM3,hao]
  have lt2:=fun h:aA0=>aDe h (.int .i64 0) (.int .i64 ((a:Nat):Int)) rfl rfl
  rw [q1,ha]
  by_cases e:aBL own[i]≤aBL own[a]
  ·have e2:aBH own i a=true:=decide_eq_true (by rw [gi,ga];exact e)
   have e3:((aBL own[i]:Nat):Int)≤(aBL own[a]:Nat):=by omega
   rw [List.takeWhile_cons_of_pos e2]
   obtain ⟨j5,ver5,H2,r1,r2,r3,r4,r5⟩:=o5.push true (c:=[.int .i64 ((a:Nat):Int)]) rfl rfl (aC0 _) 8 (by omega) (by rw [Zet];omega)
   rw [Zet] at r1 r2
   rw [← aDk] at r2
   have o3':=o3.frame (h':=H2) fun i o f e=>r3 i o e (fun g=>hq i g f)
   have hq':q3≠some j5:=fun f=>by
    rcases r4 with g | ⟨_,g⟩
    ·exact hq j5 g f
    ·rw [f] at o3;have:=o3.lt;omega
   obtain ⟨h',t5',q5',e',g1,g2,g3⟩:=ih (k+1) m (pre++[(a:Int)]) H2 _ (some j5) (by omega) (by omega) o3' r2 (fun i f=>by cases f;exact hq') (by simp;omega)
   have e4:k+((a:Int)::(l.drop (k+1)).takeWhile (aBH own i)).length=(k+1)+((l.drop (k+1)).takeWhile (aBH own i)).length:=by rw [List.length_cons];omega
   rw [List.append_assoc,List.singleton_append] at g1
   refine ⟨h',t5',q5',?_,g1,g2,g3⟩
   rw [e4,← e']
   simp only [aAd,aGK,Zae,Zaf,Zag,Zah,Zai,Zak,Zan,Zao,Zar,Zav,Zay,Zbc,Zbd,Zbf,Zbk,Zbm,Zbn,Zbo,Zbp,Zbs,Zbu,Zcf,Zck,Zcm,Zcr,Zct,Zcu,Zcz,Zda,Zdb,Zdd,Zde,Zdf,Zdg,Zdh,Q2,Q3,Q0,Q1,Zdi,Zdl,Zdo,decide_true,eq_self,List.cons_append,List.nil_append,lo,h3',p1,p2,xwa,xwi,lv,fa,fi,e3,ev2,lt2,r1,hw]
  ·have e2:¬ aBH own i a=true:=by simp only [aBH,gi,ga,decide_eq_true_eq];exact e
   have e3:¬ ((aBL own[i]:Nat):Int)≤(aBL own[a]:Nat):=by omega
   have z:((k+([]:List Int).length:Nat):Int)=k:=rfl
   rw [List.takeWhile_cons_of_neg e2,List.append_nil,z]
   refine ⟨h,t5,q5,?_,o5,o3,hq⟩
   simp only [aAd,aGK,Zaf,Zag,Zah,Zak,Zal,Zan,Zao,Zap,Zaw,Zaz,Zbc,Zbd,Zbf,Zbk,Zbm,Zbn,Zbo,Zbp,Zbs,Zbu,Zcf,Zck,Zct,Zcu,Zcz,Zda,Zdb,Zdd,Zde,Zdf,Zdg,Zdh,Q2,Q3,Q0,Q1,Zdl,Zdo,decide_true,decide_false,eq_self,List.cons_append,List.nil_append,lo,h3',p1,p2,xwa,xwi,lv,fa,fi,e3]
theorem aUD (i:Nat) (l:List Int) (hl:l.length≤1000000) (t3:AV) (q3:Option Nat) (N:Nat) :
  ∀ (d k m:Nat) (pre:List Int) (h:aA0) (t5:AV) (q5:Option Nat),l.length=k+d→d < m→aAi 1 (eIs l) t3 h q3→aAi 1 (eIs pre) t5 h q5→(∀ i,q5=some i→q3≠some i)→pre.length≤k+1 →
   ∃ (h':aA0) (t5':AV) (q5':Option Nat),aAu (aA7 (lim G0.cfg) N aEt) m ⟨(v::J::J::t3::.int .i64 i::t5::.int .i64 k::J::J::J::J::J::J::J::J::J::J::J::J::J::J::J::J::J::J::J::J::J::J::J::J::J::J::J::J::J::J::J::J::J::J::J::J::J::J::J::J::J::J::J::J::J::J::J::J::J::J::J::J::J::J::[]),h⟩=some (.exit 4,⟨(v::J::J::J::.int .i64 i::t5'::J::J::J::J::J::J::J::J::J::J::J::J::J::J::J::J::J::J::J::J::J::J::J::J::J::J::J::J::J::J::J::J::J::J::J::J::J::J::J::J::J::J::J::J::J::J::J::J::J::J::J::J::J::J::J::[]),h'⟩)∧aAi 1 (eIs (pre++l.drop k)) t5' h' q5':=by
 intro d
 induction d with
 | zero =>
  intro k m pre h t5 q5 h1 h2 o3 o5 hq hp
  obtain ⟨m,rfl⟩:∃ q,m=q+1:=⟨m - 1,by omega⟩
  have lo:=o3.len h
  rw [Zet] at lo
  have h3:¬ ((k:Int) < l.length):=by omega
  have q1:l.drop k=[]:=List.drop_eq_nil_iff.2 (by omega)
  rw [q1,List.append_nil]
  refine ⟨h,t5,q5,?_,o5⟩
  simp only [aAd,aJs,Zaf,Zag,Zah,Zak,Zal,Zan,Zao,Zap,Zaw,Zaz,Zbc,Zbm,Zbo,Zbu,Zck,Zcz,Zdb,Zdf,Zdg,Zdh,Q2,Q3,Q0,Q1,Zdl,decide_false,eq_self,lo,h3]
 | succ d ih =>
  intro k m pre h t5 q5 h1 h2 o3 o5 hq hp
  obtain ⟨m,rfl⟩:∃ q,m=q+1:=⟨m - 1,by omega⟩
  have lo:=o3.len h
  rw [Zet] at lo
  have h3:k < l.length:=by omega
  have h3':(k:Int) < l.length:=by omega
  have hw:=aBb (n:=k) (by omega)
  have q1:l.drop k=l[k]::l.drop (k+1):=List.drop_eq_getElem_cons h3
  obtain ⟨p,p1,p2⟩:=o3.ix1 (aPl h3)
  obtain ⟨a,ha⟩:∃ a,a=l[k]:=⟨_,rfl⟩
  rw [← ha] at p2
  have lt2:=fun h:aA0=>aDe h (.int .i64 0) (.int .i64 a) rfl rfl
  rw [q1,← ha]
  obtain ⟨j5,ver5,H2,r1,r2,r3,r4,r5⟩:=o5.push true (c:=[.int .i64 a]) rfl rfl (aC0 _) 8 (by omega) (by rw [Zet];omega)
  rw [Zet] at r1 r2
  rw [← aDk] at r2
  have o3':=o3.frame (h':=H2) fun i o f e=>r3 i o e (fun g=>hq i g f)
  have hq':q3≠some j5:=fun f=>by
   rcases r4 with g | ⟨_,g⟩
   ·exact hq j5 g f
   ·rw [f] at o3;have:=o3.lt;omega
  obtain ⟨h',t5',q5',e',g1⟩:=ih (k+1) m (pre++[a]) H2 _ (some j5) (by omega) (by omega) o3' r2 (fun i f=>by cases f;exact hq') (by simp;omega)
  rw [List.append_assoc,List.singleton_append] at g1
  refine ⟨h',t5',q5',?_,g1⟩
  rw [← e']
  simp only [aAd,aJs,Zae,Zaf,Zag,Zah,Zai,Zak,Zan,Zao,Zar,Zav,Zay,Zbc,Zbd,Zbm,Zbo,Zbs,Zbu,Zcf,Zck,Zcm,Zcr,Zcz,Zda,Zdb,Zdf,Zdg,Zdh,Q2,Q3,Q0,Q1,Zdi,Zdl,decide_true,eq_self,lo,h3',p1,p2,ev2,lt2,r1,hw]
end
end Go.Proofs.Ytgeedikghjcebaa.Ai
namespace Go.Proofs.Ytgeedikghjcebaa.Ai
open Go Go.Proofs
open AV renaming junk → J
open List renaming length_cons → Q0, getD_cons_zero → Q1, getD_cons_succ → Q2
set_option linter.unusedVariables false
set_option linter.unusedSimpArgs false
set_option maxRecDepth 10000
set_option maxHeartbeats 4000000
theorem aFH (own:List (List Int)) (l:List Int) (i:Int):List.Perm (aDW own l i) (i::l):=by
 unfold aDW
 exact List.perm_middle.trans (by rw [List.takeWhile_append_dropWhile])
theorem aPW (own:List (List Int)) (l:List Int) (i:Int):(aDW own l i).length=l.length+1:=by rw [(aFH own l i).length_eq,Q0]
section
variable {own : List (List Int)} {v : AV}
theorem aV5 (p:Int→Bool):∀ l:List Int,l.drop (l.takeWhile p).length=l.dropWhile p:=by
 intro l
 induction l with
 | nil=>rfl
 | cons a l ih =>
  by_cases e:p a=true
  ·rw [List.takeWhile_cons_of_pos e,List.dropWhile_cons_of_pos e,Q0,List.drop_succ_cons,ih]
  ·rw [List.takeWhile_cons_of_neg e,List.dropWhile_cons_of_neg e];rfl
theorem aWi (p:Int→Bool):∀ l:List Int,(l.takeWhile p).length≤l.length:=by
 intro l
 induction l with
 | nil=>exact Nat.le_refl _
 | cons a l ih =>
  by_cases e:p a=true
  ·rw [List.takeWhile_cons_of_pos e,Q0,Q0];omega
  ·rw [List.takeWhile_cons_of_neg e];simp
theorem aUF (hv:LiR own v) (hm:∀ r ∈ own,r.length≤1000000) (hn:own.length≤900000) (N:Nat) (hN:1000001≤N) :
  ∀ (d i m:Nat) (l:List Int) (h:aA0) (t3:AV) (q3:Option Nat),own.length=i+d→d < m→aAi 1 (eIs l) t3 h q3→l.length=i→(∀ x ∈ l,0≤x∧x < own.length) →
   ∃ (h':aA0) (t3':AV) (q3':Option Nat),aAu (aA7 (lim G0.cfg) N aEv) m ⟨(v::J::J::t3::.int .i64 i::J::J::J::J::J::J::J::J::J::J::J::J::J::J::J::J::J::J::J::J::J::J::J::J::J::J::J::J::J::J::J::J::J::J::J::J::J::J::J::J::J::J::J::J::J::J::J::J::J::J::J::J::J::J::J::J::[]),h⟩=some (.exit 0,⟨(J::J::J::t3'::J::J::J::J::J::J::J::J::J::J::J::J::J::J::J::J::J::J::J::J::J::J::J::J::J::J::J::J::J::J::J::J::J::J::J::J::J::J::J::J::J::J::J::J::J::J::J::J::J::J::J::J::J::J::J::J::J::[]),h'⟩)∧aAi 1 (eIs (((aBQ own.length).drop i).foldl (aDW own) l)) t3' h' q3':=by
 have lv0:=hv.len
 intro d
 induction d with
 | zero =>
  intro i m l h t3 q3 h1 h2 o3 hl hlm
  obtain ⟨m,rfl⟩:∃ q,m=q+1:=⟨m - 1,by omega⟩
  have h3:¬ ((i:Int) < own.length):=by omega
  have q1:(aBQ own.length).drop i=[]:=List.drop_eq_nil_iff.2 (by rw [aDC];omega)
  rw [q1]
  refine ⟨h,t3,q3,?_,o3⟩
  simp only [aAd,aJt,Zaf,Zag,Zah,Zak,Zal,Zan,Zao,Zap,Zaw,Zaz,Zbc,Zbm,Zbo,Zbu,Zck,Zcz,Zdb,Zdf,Zdg,Zdh,List.set_cons_zero,List.set_cons_succ,Q1,Q2,Zdl,decide_false,eq_self,lv0,h3]
 | succ d ih =>
  intro i m l h t3 q3 h1 h2 o3 hl hlm
  obtain ⟨m,rfl⟩:∃ q,m=q+1:=⟨m - 1,by omega⟩
  have h3:i < own.length:=by omega
  have h3':(i:Int) < own.length:=by omega
  have hw:=aBb (n:=i) (by omega)
  have hi':i < (aBQ own.length).length:=by rw [aDC];exact h3
  have q1:(aBQ own.length).drop i=((i:Nat):Int)::(aBQ own.length).drop (i+1):=by
   rw [List.drop_eq_getElem_cons hi']
   congr 1
   simp [aBQ]
  obtain ⟨h4,t5,q5,e1,o5,o3',hq⟩:=aUE hv hm (by omega) i h3 l (by omega) hlm t3 q3 N l.length 0 N [] h .nilS none (by omega) (by omega) o3 (aAi.nil 1 _) (fun _ e=>(by cases e)) (by simp)
  rw [List.drop_zero,List.nil_append] at o5
  rw [List.drop_zero,Nat.zero_add,z0] at e1
  have tl:=aWi (aBH own i) l
  obtain ⟨j5,ver5,H2,r1,r2,r3,r4,r5⟩:=o5.push true (c:=[.int .i64 ((i:Nat):Int)]) rfl rfl (aC0 _) 8 (by omega) (by rw [Zet];omega)
  rw [Zet] at r1 r2
  rw [← aDk] at r2
  have o3'':=o3'.frame (h':=H2) fun i o f e=>r3 i o e (fun g=>hq i g f)
  have hq':q3≠some j5:=fun f=>by
   rcases r4 with g | ⟨_,g⟩
   ·exact hq j5 g f
   ·rw [f] at o3';have:=o3'.lt;omega
  obtain ⟨H3,t6,q6,e2,o6⟩:=aUD (v:=v) i l (by omega) t3 q3 N (l.length - (l.takeWhile (aBH own i)).length) (l.takeWhile (aBH own i)).length N (l.takeWhile (aBH own i)++[(i:Int)]) H2 _ (some j5) (by omega) (by omega) o3'' r2 (fun i f=>by cases f;exact hq') (by simp)
  have es:l.takeWhile (aBH own i)++[(i:Int)]++l.drop (l.takeWhile (aBH own i)).length=aDW own l i:=by rw [aV5,List.append_assoc,List.singleton_append];rfl
  rw [es] at o6
  obtain ⟨h',t3',q3',e',g⟩:=ih (i+1) m (aDW own l i) H3 t6 q6 (by omega) (by omega) o6 (by rw [aPW];omega) (fun x hx=>by
   rcases List.mem_cons.1 ((aFH own l i).mem_iff.1 hx) with h | h
   ·subst h;omega
   ·exact hlm x h)
  rw [q1,List.foldl_cons]
  refine ⟨h',t3',q3',?_,g⟩
  rw [← e']
  have lt2:=fun h:aA0=>aDe h (.int .i64 0) (.int .i64 ((i:Nat):Int)) rfl rfl
  simp only [aAd,aJt,Zae,Zaf,Zag,Zah,Zai,Zaj,Zak,Zan,Zao,Zar,Zat,Zav,Zax,Zay,Zbc,Zbd,Zbm,Zbo,Zbu,Zck,Zcm,Zcr,Zcz,Zda,Zdb,Zdf,Zdg,Zdh,List.set_cons_zero,List.set_cons_succ,Q1,Q2,Zdi,Zdl,decide_true,eq_self,lv0,h3',e1,ev2,lt2,r1,e2,hw]
theorem aUC (hv:LiR own v) (hm:∀ r ∈ own,r.length≤1000000) (hn:own.length≤900000):∃ x,Li (aCL own) x∧∀ H,lim G0.cfg (.func 57) [v] H=some (x,H):=by
 obtain ⟨h',t3,q3,e,o⟩:=aUF hv hm hn 1000001 (by omega) own.length 0 1000001 [] [] .nilS none (by omega) (by omega) (aAi.nil 1 _) rfl (fun _ h=>(by simp at h))
 rw [List.drop_zero] at o
 rw [z0] at e
 have hO:(aBQ own.length).foldl (aDW own) []=aCL own:=rfl
 rw [hO] at o
 have run:aAW (lim G0.cfg) 1000001 aFq [v] []=some (t3,h'):=by
  rw [aQi]
  simp only [Zaf,Zag,Zai,Zaj,Zak,Zam,Zan,Zao,Zat,Zax,Zbm,Zbo,Zcy,Zcz,Zda,Zdb,Zdf,Zdg,Zdh,List.set_cons_zero,List.set_cons_succ,Q1,Q2,Option.map_some,Q0,List.length_nil,Nat.reduceAdd,Nat.reduceSub,eq_self,Q0,List.length_nil,List.replicate_succ,List.replicate_zero,List.cons_append,List.nil_append,e,aA5,aA4,aA8]
 obtain ⟨x,c,f1,f2⟩:=fzI o 998
 exact ⟨x,f2,fun H=>aH5 rfl rfl aQn 1000001 (aCG (hv.fz H 999)) run f1 rfl⟩
end
end Go.Proofs.Ytgeedikghjcebaa.Ai
namespace Go.Proofs.Ytgeedikghjcebaa.Ai
open Go Go.Proofs
set_option linter.unusedVariables false
set_option linter.unusedSimpArgs false
theorem aSj (own:List (List Int)) (i x:Int):aIh own i < aIh own x↔¬ aBH own i x=true:=by
 unfold aIh aBH aM3
 rw [decide_eq_true_eq]
 generalize aBL (own.getD x.toNat [])=a
 generalize aBL (own.getD i.toNat [])=b
 constructor <;> intro h <;> omega
theorem aV4 (p:Int→Bool):∀ l:List Int,l.dropWhile p=[]∨∃ a r,l.dropWhile p=a::r∧¬ p a=true:=by
 intro l
 induction l with
 | nil=>exact .inl rfl
 | cons a l ih =>
  by_cases e:p a=true
  ·rw [List.dropWhile_cons_of_pos e];exact ih
  ·rw [List.dropWhile_cons_of_neg e];exact .inr ⟨a,l,rfl,e⟩
theorem aVk (p:Int→Bool):∀ (l:List Int) (x:Int),x ∈ l.takeWhile p→p x=true:=by
 intro l
 induction l with
 | nil=>intro x h;simp at h
 | cons a l ih =>
  intro x h
  by_cases e:p a=true
  ·rw [List.takeWhile_cons_of_pos e] at h
   rcases List.mem_cons.1 h with h | h
   ·subst h;exact e
   ·exact ih x h
  ·rw [List.takeWhile_cons_of_neg e] at h;simp at h
theorem aQV (l:List Int):l=[]∨∃ l1 x,l=l1++[x]:=by
 rcases List.eq_nil_or_concat l with h | ⟨a,b,h⟩
 ·exact .inl h
 ·exact .inr ⟨a,b,by rw [h];try simp⟩
theorem aNI (own:List (List Int)) (l:List Int) (i:Int) (hs:aAR (aIh own) l) (hl:∀ s ∈ l,s < i):aAR (aIh own) (aDW own l i):=by
 have hs':aAR (aIh own) (l.takeWhile (aBH own i)++l.dropWhile (aBH own i)):=by rw [List.takeWhile_append_dropWhile];exact hs
 refine aKa hs' (by rw [List.takeWhile_append_dropWhile];exact hl) ?_ ?_
 ·intro q hq
  rcases aV4 (aBH own i) l with h | ⟨a,r,h,ha⟩
  ·rw [h] at hq;simp at hq
  ·have h2:=(List.pairwise_append.1 hs').2.1
   rw [h] at hq h2
   have ka:=(aSj own i a).2 ha
   rcases List.mem_cons.1 hq with e | e
   ·subst e;exact ka
   ·have:=(List.pairwise_cons.1 h2).1 q e
    unfold aJG at this
    omega
 ·rcases aQV (l.takeWhile (aBH own i)) with h | ⟨l1,x,h⟩
  ·exact .inl h
  ·refine .inr ⟨l1,x,h,fun hk => ?_⟩
   exact (aSj own i x).1 hk (aVk _ l x (by rw [h];simp))
theorem aRa (own:List (List Int)):∀ (xs l:List Int),List.Perm (xs.foldl (aDW own) l) (l++xs):=by
 intro xs
 induction xs with
 | nil=>intro l;rw [List.append_nil];exact List.Perm.refl _
 | cons x xs ih =>
  intro l
  rw [List.foldl_cons]
  refine (ih _).trans ?_
  exact ((aFH own l x).append_right xs).trans List.perm_middle.symm
theorem aP9 (own:List (List Int)):∀ (xs l:List Int),aAR (aIh own) l→xs.Pairwise (· < ·)→(∀ s ∈ l,∀ x ∈ xs,s < x)→aAR (aIh own) (xs.foldl (aDW own) l):=by
 intro xs
 induction xs with
 | nil=>intro l h _ _;exact h
 | cons x xs ih =>
  intro l h1 h2 h3
  rw [List.foldl_cons]
  rw [List.pairwise_cons] at h2
  refine ih _ (aNI own l x h1 fun s hs=>h3 s hs x (by simp)) h2.2 fun s hs y hy => ?_
  rcases List.mem_cons.1 ((aFH own l x).mem_iff.1 hs) with e | e
  ·subst e;exact h2.1 y hy
  ·exact h3 s e y (by simp [hy])
theorem aKt (own:List (List Int)):aOI own (aCL own):=by
 refine ⟨?_,aP9 own _ [] List.Pairwise.nil (aP3 _) (by simp)⟩
 have:=aRa own (aBQ own.length) []
 rwa [List.nil_append] at this
theorem aOI.eq {own:List (List Int)} {ord:List Int} (h:aOI own ord):ord=aCL own:=by
 obtain ⟨p1,s1⟩:=h
 obtain ⟨p2,s2⟩:=aKt own
 refine List.Perm.eq_of_pairwise (fun a b _ _ h1 h2 => ?_) s1 s2 (p1.trans p2.symm)
 unfold aJG at h1 h2
 omega
end Go.Proofs.Ytgeedikghjcebaa.Ai
namespace Go.Proofs.Ytgeedikghjcebaa.Ai
open Go Go.Proofs
set_option linter.unusedVariables false
set_option linter.unusedSimpArgs false
set_option maxRecDepth 10000
set_option maxHeartbeats 4000000
def aFv (rows:List (List Int)):RowT :=
 ⟨(aAI rows).2,(aJ0 (aAI rows).1 (aCL (aAI rows).1)).1,(aJ0 (aAI rows).1 (aCL (aAI rows).1)).2.1,(aJ0 (aAI rows).1 (aCL (aAI rows).1)).2.2⟩
theorem aTv {h:aA0} {d:Nat}:∀ l:List Int,∃ q,aAo (aAo (freeze h (d+1))) (eIs l)=some q∧q.map (·.map (·.1))=eIs l:=by
 intro l
 induction l with
 | nil=>exact ⟨[],rfl,rfl⟩
 | cons a l ih =>
  obtain ⟨q,e1,e2⟩:=ih
  have e3:aAo (freeze h (d+1)) [.int .i64 a]=some [(.int .i64 a,true)]:=rfl
  have e4:eIs (a::l)=[.int .i64 a]::eIs l:=rfl
  exact ⟨[(.int .i64 a,true)]::q,by rw [e4];simp only [aAo] at e3 ⊢;simp only [e3,e1],by rw [e4];simp [e2]⟩
theorem fzH {l:List Int} {i n:Nat} {h:aA0} {cc:Option Nat} {tl:List (List AV)} {b:Bool} (hi:h[i]?=some (.arr 0 1 b (eIs l++tl))) (hn:n=l.length) (d:Nat):∃ x c,freeze h (d+2) (.hsl i 0 0 n cc)=some (x,c)∧Li l x:=by
 subst hn
 obtain ⟨q,e1,e2⟩:=aTv (h:=h) (d:=d) l
 have tk:(eIs l++tl).take l.length=eIs l:=List.take_left' (Zet l)
 have:=aFl (d:=d+1) (n:=l.length) (cc:=cc) (q:=q) hi (by rw [List.length_append,Zet];omega) (by rw [tk];exact e1)
 exact ⟨_,false,this,.inr ⟨false,by rw [e2]⟩⟩
theorem fzG {l:List Int} {w:AV} {h:aA0} {q:Option Nat} (ho:aB3 l w h q) (d:Nat):∃ x c,freeze h (d+2) w=some (x,c)∧Li l x:=by
 rcases ho with ⟨h1,h2,_⟩ | ⟨i,c,_,h2,h3,h4⟩
 ·subst h2;exact ⟨.nilS,true,rfl,.inl ⟨h1,rfl⟩⟩
 ·subst h2;exact fzH h4 rfl d
theorem aU7 {rows:List (List Int)} {v:AV} (hv:LiR rows v) (hn:rows.length≤1000000) (M:Nat) (hM:∀ r ∈ rows,r.length≤M) (hM1:M≤1000000) (hM2:rows.length*M+M≤9000000):∃ cs,RT (aFv rows) cs∧∀ H,lim G0.cfg (.func 53) [v] H=some (.agg cs,H):=by
 obtain ⟨ord,h,rv,vv,kv,Lb,q1,qv,qk,ho,run,o1,eb,lb,gv,gk⟩:=aUr hv hn M hM hM1 hM2
 rw [ho.eq] at eb lb gv gk
 obtain ⟨x1,c1,f1,g1⟩:=fzI o1 997
 have eb':h[Lb]?=some (.arr 0 1 true (eIs (aJ0 (aAI rows).1 (aCL (aAI rows).1)).1++[])):=by rw [List.append_nil];exact eb
 obtain ⟨x2,c2,f2,g2⟩:=fzH (n:=(aAI rows).1.length) (cc:=none) eb' lb.symm 997
 obtain ⟨x3,c3,f3,g3⟩:=fzG gv 997
 obtain ⟨x4,c4,f4,g4⟩:=fzG gk 997
 have fz:freeze h 1000 (.agg [rv,.hsl Lb 0 0 (aAI rows).1.length none,vv,kv])=some (.agg [x1,x2,x3,x4],([(x1,c1),(x2,c2),(x3,c3),(x4,c4)]:List (AV × Bool)).all (·.2)):=by
  have:freeze h 1000 (.agg [rv,.hsl Lb 0 0 (aAI rows).1.length none,vv,kv])=(aAo (freeze h 999) [rv,.hsl Lb 0 0 (aAI rows).1.length none,vv,kv]).map fun l=>(.agg (l.map (·.1)),l.all (·.2)):=rfl
  rw [this]
  have m:aAo (freeze h 999) [rv,.hsl Lb 0 0 (aAI rows).1.length none,vv,kv]=some [(x1,c1),(x2,c2),(x3,c3),(x4,c4)]:=by simp only [aAo,f1,f2,f3,f4]
  rw [m]
  rfl
 exact ⟨[x1,x2,x3,x4],⟨x1,x2,x3,x4,rfl,g1,g2,g3,g4⟩,fun H=>aH5 rfl rfl aRL 9000001 (aCG (hv.fz H 999)) run fz rfl⟩
end Go.Proofs.Ytgeedikghjcebaa.Ai
namespace Go.Proofs.Ytgeedikghjcebaa.Ai
open Go Go.Proofs
open AV renaming junk → J
set_option linter.unusedVariables false
set_option linter.unusedSimpArgs false
set_option maxRecDepth 10000
set_option maxHeartbeats 4000000
theorem aSv (l:List Int) (n:Nat) (h:l.length < n):aD2 (l++[0]) n=aD2 l n:=by
 have e:n - l.length=(n - (l++[0]).length)+1:=by simp;omega
 rw [aD2,aD2,e,List.replicate_succ,List.append_assoc,List.singleton_append]
section
variable {v0 v1 w2 w3 w6 w7 w8 : AV}
theorem aUG (T b j N:Nat) (hT:2≤T) (hb:b+j≤9000000):∀ (d m:Nat) (vals chk:List Int) (h:aA0) (vv kv:AV) (qv qk:Option Nat),vals.length+d=max vals.length (b+j+1)→d < m→chk.length=vals.length→vals.length≤10000000→h[1]?=some (.arr 0 4 true [[v0,v1,vv,kv]])→aAi 1 (eIs vals) vv h qv→aAi 1 (eIs chk) kv h qk→(∀ i,qv=some i→T≤i)→(∀ i,qk=some i→T≤i)→(∀ i,qv=some i→qk≠some i)→T≤h.length →
  ∃ (h':aA0) (vv' kv':AV) (qv' qk':Option Nat),aAu (aA7 (lim G0.cfg) N aFm) m ⟨(J::J::w2::w3::J::.ptr 1 0 0 0::w6::w7::w8::.int .i64 b::.int .i64 j::J::J::J::J::J::J::J::J::J::J::J::J::J::J::J::J::J::J::J::J::J::J::J::J::J::J::J::J::J::J::J::J::J::J::J::J::J::J::J::J::J::J::J::J::J::J::J::J::J::J::J::J::J::J::J::J::J::J::J::J::J::J::J::J::J::J::J::J::J::J::J::J::J::J::J::J::J::J::J::J::J::J::J::J::J::J::J::J::J::J::J::J::J::J::[]),h⟩=some (.exit 6,⟨(J::J::w2::w3::J::.ptr 1 0 0 0::w6::w7::w8::.int .i64 b::.int .i64 j::J::J::J::J::J::J::J::J::J::J::J::J::J::J::J::J::J::J::J::J::J::J::J::J::J::J::J::J::J::J::J::J::J::J::J::J::J::J::J::J::J::J::J::J::J::J::J::J::J::J::J::J::J::J::J::J::J::J::J::J::J::J::J::J::J::J::J::J::J::J::J::J::J::J::J::J::J::J::J::J::J::J::J::J::J::J::J::J::J::J::J::J::J::J::[]),h'⟩) ∧
   h'[1]?=some (.arr 0 4 true [[v0,v1,vv',kv']])∧aAi 1 (eIs (aD2 vals (b+j+1))) vv' h' qv'∧aAi 1 (eIs (aD2 chk (b+j+1))) kv' h' qk'∧(∀ (p:Nat) (o:AObj),p < T→p≠1→h[p]?=some o→h'[p]?=some o)∧(∀ i,qv'=some i→T≤i)∧(∀ i,qk'=some i→T≤i)∧(∀ i,qv'=some i→qk'≠some i)∧T≤h'.length:=by
 intro d
 induction d with
 | zero =>
  intro m vals chk h vv kv qv qk h1 h2 hl hn e1 ov ok tv tk hq hT2
  obtain ⟨m,rfl⟩:∃ q,m=q+1:=⟨m - 1,by omega⟩
  have hw:=aNC (a:=b) (b:=j) (by omega)
  have lo:=ov.len h
  rw [Zet] at lo
  have l2:=aLf e1
  have h3:¬ ((vals.length:Int)≤((b+j:Nat):Int)):=by omega
  refine ⟨h,vv,kv,qv,qk,?_,e1,by rw [aKF (by omega)];exact ov,by rw [aKF (by omega)];exact ok,fun _ _ _ _ e=>e,tv,tk,hq,hT2⟩
  simp only [aAd,aKV,Zaf,Zag,Zah,Zak,Zal,Zan,Zao,Zap,Zaw,Zaz,Zbc,Zbm,Zbo,Zbs,Zbu,Zcc,Zck,Zcz,Zdb,Zdf,Zdg,Zdh,List.set_cons_zero,List.set_cons_succ,List.getD_cons_zero,List.getD_cons_succ,Zdi,Zdm,Zeb,decide_false,Nat.reduceAdd,eq_self,l2,lo,hw,h3]
 | succ d ih =>
  intro m vals chk h vv kv qv qk h1 h2 hl hn e1 ov ok tv tk hq hT2
  obtain ⟨m,rfl⟩:∃ q,m=q+1:=⟨m - 1,by omega⟩
  have hw:=aNC (a:=b) (b:=j) (by omega)
  have lo:=ov.len h
  rw [Zet] at lo
  have l2:=aLf e1
  have h3:((vals.length:Int)≤((b+j:Nat):Int)):=by omega
  obtain ⟨iv,ver1,H1,r1,r2,r3,r4,r5⟩:=ov.push true (c:=[.int .i64 0]) rfl rfl (aC0 _) 8 (by omega) (by rw [Zet];omega)
  rw [Zet] at r1 r2
  rw [← aDk] at r2
  have n1:qv≠some 1:=fun e=>by have:=tv 1 e;omega
  have e1':=r3 1 _ e1 n1
  have tiv:T≤iv:=by
   rcases r4 with g | ⟨_,g⟩
   ·exact tv iv g
   ·omega
  have ok1:=ok.frame (h':=H1) fun i o f e=>r3 i o e (fun g=>hq i g f)
  have hne:qk≠some iv:=fun f=>by
   rcases r4 with g | ⟨_,g⟩
   ·exact hq iv g f
   ·rw [f] at ok;have:=ok.lt;omega
  have s2:=aUb e1' r2.cell
  obtain ⟨vvx,hvx⟩:∃ x,x=AV.hsl iv ver1 0 (vals.length+1) none:=⟨_,rfl⟩
  rw [← hvx] at r1 r2 s2
  obtain ⟨H2,hH2⟩:∃ H,H=H1.set 1 (.arr 0 4 true [[v0,v1,vvx,kv]]):=⟨_,rfl⟩
  rw [← hH2] at s2
  have e2:H2[1]?=some (.arr 0 4 true [[v0,v1,vvx,kv]]):=by rw [hH2];exact aAm e1'
  have fr2:∀ (p:Nat) (o:AObj),p≠1→H1[p]?=some o→H2[p]?=some o:=fun p o n e=>by rw [hH2];exact aAv e n.symm
  have ov2:=r2.frame (h':=H2) fun i o f e=>fr2 i o (by cases f;omega) e
  have ok2:=ok1.frame (h':=H2) fun i o f e=>fr2 i o (by have:=tk i f;omega) e
  have l3:=aLe e2
  obtain ⟨ik,ver2,H3,p1,p2,p3,p4,p5⟩:=ok2.push true (c:=[.int .i64 0]) rfl rfl (aC0 _) 8 (by omega) (by rw [Zet];omega)
  rw [Zet] at p1 p2
  rw [← aDk] at p2
  have n2:qk≠some 1:=fun e=>by have:=tk 1 e;omega
  have e3:=p3 1 _ e2 n2
  have lenH2:H2.length=H1.length:=by rw [hH2,List.length_set]
  have tik:T≤ik:=by
   rcases p4 with g | ⟨_,g⟩
   ·exact tk ik g
   ·omega
  have ov3:=ov2.frame (h':=H3) fun i o f e=>p3 i o e (fun g=>by cases f;exact hne g)
  have hne2:iv≠ik:=fun f=>by
   rcases p4 with g | ⟨_,g⟩
   ·rw [← f] at g;exact hne g
   ·have:=ov2.lt;omega
  have s3:=aUa e3 p2.cell
  obtain ⟨kvx,hkx⟩:∃ x,x=AV.hsl ik ver2 0 (chk.length+1) none:=⟨_,rfl⟩
  rw [← hkx] at p1 p2 s3
  obtain ⟨H4,hH4⟩:∃ H,H=H3.set 1 (.arr 0 4 true [[v0,v1,vvx,kvx]]):=⟨_,rfl⟩
  rw [← hH4] at s3
  have e4:H4[1]?=some (.arr 0 4 true [[v0,v1,vvx,kvx]]):=by rw [hH4];exact aAm e3
  have fr4:∀ (p:Nat) (o:AObj),p≠1→H3[p]?=some o→H4[p]?=some o:=fun p o n e=>by rw [hH4];exact aAv e n.symm
  have ov4:=ov3.frame (h':=H4) fun i o f e=>fr4 i o (by cases f;omega) e
  have ok4:=p2.frame (h':=H4) fun i o f e=>fr4 i o (by cases f;omega) e
  have lenH4:H4.length=H3.length:=by rw [hH4,List.length_set]
  have le1:(vals++[0]).length=vals.length+1:=by simp
  have le2:(chk++[0]).length=chk.length+1:=by simp
  obtain ⟨h',vv',kv',qv',qk',e,g1,g2,g3,g4,g5,g6,g7,g8⟩:=ih m (vals++[0]) (chk++[0]) H4 vvx kvx (some iv) (some ik) (by omega) (by omega) (by omega) (by omega) e4 ov4 ok4 (fun i f=>by cases f;exact tiv) (fun i f=>by cases f;exact tik) (fun i f g=>by cases f;cases g;exact hne2 rfl) (by omega)
  rw [aSv _ _ (by omega)] at g2 g3
  refine ⟨h',vv',kv',qv',qk',?_,g1,g2,g3,fun p o t1 t2 eo=>g4 p o t1 t2 (fr4 p o t2 (p3 p o (fr2 p o t2 (r3 p o eo fun f=>by have:=tv p f;omega)) fun f=>by have:=tk p f;omega)),g5,g6,g7,g8⟩
  rw [← e]
  have lt2:=fun h:aA0=>aDe h (.int .i64 0) (.int .i64 0) rfl rfl
  simp only [aAd,aKV,Zae,Zaf,Zag,Zah,Zai,Zak,Zan,Zao,Zar,Zav,Zay,Zbc,Zbd,Zbe,Zbm,Zbo,Zbs,Zbt,Zbu,Zcc,Zck,Zcm,Zcr,Zcz,Zda,Zdb,Zdc,Zdf,Zdg,Zdh,List.set_cons_zero,List.set_cons_succ,List.getD_cons_zero,List.getD_cons_succ,Zdi,Zdm,Zeb,decide_true,Nat.reduceAdd,eq_self,l2,lo,hw,h3,ev2,lt2,r1,s2,l3,p1,s3]
end
end Go.Proofs.Ytgeedikghjcebaa.Ai
