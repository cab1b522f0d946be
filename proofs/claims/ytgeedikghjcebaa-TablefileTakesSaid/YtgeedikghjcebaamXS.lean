/- Reading as the reference does it. -/
import Derived.Test.YtgeedikghjcebaamXC
import Derived.Test.YtgeedikghjcebaamXG
namespace Go.Proofs.Ytgeedikghjcebaa.Ai
open Go Go.Proofs
open AV renaming junk → J
open List renaming getD_cons_zero → Q0, getD_cons_succ → Q1, set_cons_zero → Q2, set_cons_succ → Q3, length_cons → Q4, length_nil → Q5, replicate_succ → Q6, replicate_zero → Q7, cons_append → Q8, nil_append → Z0
open Option renaming map_some → Q9
set_option linter.unusedVariables false
set_option linter.unusedSimpArgs false
set_option maxRecDepth 10000
set_option maxHeartbeats 4000000
def aDz (l:List UInt8):Option (Nat × List UInt8) :=
 match rdG 0 0 l with
 | some (x,false,r)=>some (x,r)
 | _=>none
def aBX:Nat→List UInt8→Option (List Int × List UInt8)
 | 0,l=>some ([],l)
 | k+1,l =>
  match aDz l with
  | none=>none
  | some (x,r)=>(aBX k r).map fun p=>((x:Int)::p.1,p.2)
def aH2 (l:List UInt8):Option (List Int × List UInt8) :=
 match aDz l with
 | none=>none
 | some (n,r)=>aBX n r
def aBG:Nat→List UInt8→Option (List (List Int) × List UInt8)
 | 0,l=>some ([],l)
 | k+1,l =>
  match aH2 l with
  | none=>none
  | some (x,r)=>(aBG k r).map fun p=>(x::p.1,p.2)
theorem aIm {l r:List UInt8} {x:Nat} (h:aDz l=some (x,r)):x < 2147483648∧r.length < l.length:=by
 unfold aDz at h
 split at h
 ·rename_i a b c
  cases h
  exact aOq l 0 0 (by decide) (by omega) c
 ·cases h
def rfO (w:AV) (a:Nat) (b:Bool):AObj:=.arr 0 3 true [[w,.int .i64 a,.bool b]]
section
variable {h : aA0} {r : Nat} {w : AV} {a : Nat} {b : Bool}
theorem aTo (e:h[r]?=some (rfO w a b)):aAd h 1 false (.ptr r 0 0 0)=some w:=by rw [aAS h 1 r 0 0 0 false 3 true _ _ e rfl];rfl
theorem aTn (e:h[r]?=some (rfO w a b)):aAd h 1 false (.ptr r 0 0 1)=some (.int .i64 a):=by rw [aAS h 1 r 0 0 1 false 3 true _ _ e rfl];rfl
theorem aFG (e:h[r]?=some (rfO w a b)):aAd h 1 false (.ptr r 0 0 2)=some (.bool b):=by rw [aAS h 1 r 0 0 2 false 3 true _ _ e rfl];rfl
theorem aVF (e:h[r]?=some (rfO w a b)) (a':Nat):aAw h 1 (.ptr r 0 0 1) (.int .i64 a')=some (h.set r (rfO w a' b)):=by
 rw [aHm h 1 r 0 0 1 _ 3 true _ _ e rfl rfl (by simp) rfl];rfl
theorem aQu (e:h[r]?=some (rfO w a b)) (b':Bool):aAw h 1 (.ptr r 0 0 2) (.bool b')=some (h.set r (rfO w a b')):=by
 rw [aHm h 1 r 0 0 2 _ 3 true _ _ e rfl rfl (by simp) rfl];rfl
end
theorem aQy:(128:Nat) ^ 4=268435456:=by decide
theorem aVS {i n c n':Nat} (h:n'=n+c % 128*128 ^ i) (e:i=4) (h1:7 < c) (h2:c < 128):2147483647 < n':=by
 subst e
 rw [aQy] at h
 omega
theorem aTM {i n c n':Nat} (h:n'=n+c % 128*128 ^ i) (hi:i≤4) (hn:n < 128 ^ i) (h3:¬ (i=4∧7 < c)):n'≤2147483647:=by
 by_cases e:i=4
 ·subst e
  rw [aQy] at h hn
  omega
 ·have k:128 ^ (i+1)≤128 ^ 4:=Nat.pow_le_pow_right (by decide) (by omega)
  rw [aQy,Nat.pow_succ] at k
  have m:c % 128*128 ^ i≤127*128 ^ i:=Nat.mul_le_mul_right _ (by omega)
  generalize 128 ^ i=P at *
  generalize c % 128*P=Q at *
  omega
section
variable {r : Nat} {N : Nat} {l : List UInt8} {w : AV}
theorem aTm (hl:LiB l w) (hn:l.length≤1000000000) (dg:Bool) :
  ∀ (d i m n a:Nat) (h:aA0),i+d=5→d < m→n < 128 ^ i→a≤l.length→h[r]?=some (rfO w a dg) →
  (∀ x rest,rdG i n (l.drop a)=some (x,false,rest)→∃ a',a'≤l.length∧l.drop a'=rest∧aAp (aA7 (lim G0.cfg) N aCM) m ⟨(.ptr r 0 0 0::J::J::.int .i64 n::.int .i64 ((128 ^ i:Nat):Int)::.int .i64 i::J::J::J::J::J::J::J::J::J::J::J::J::J::J::J::J::J::J::J::J::J::J::J::J::J::J::J::J::J::J::J::J::J::J::J::J::J::J::J::J::J::J::J::J::J::J::J::J::J::J::J::J::J::J::J::J::J::J::J::J::J::J::[]),h⟩=some (.ret,⟨(J::J::.int .i64 x::J::J::J::J::J::J::J::J::J::J::J::J::J::J::J::J::J::J::J::J::J::J::J::J::J::J::J::J::J::J::J::J::J::J::J::J::J::J::J::J::J::J::J::J::J::J::J::J::J::J::J::J::J::J::J::J::J::J::J::J::J::J::J::J::J::[]),h.set r (rfO w a' dg)⟩)) ∧
  ((∀ x rest,rdG i n (l.drop a)≠some (x,false,rest))→(∃ (x:Int) (a':Nat),a'≤l.length∧aAp (aA7 (lim G0.cfg) N aCM) m ⟨(.ptr r 0 0 0::J::J::.int .i64 n::.int .i64 ((128 ^ i:Nat):Int)::.int .i64 i::J::J::J::J::J::J::J::J::J::J::J::J::J::J::J::J::J::J::J::J::J::J::J::J::J::J::J::J::J::J::J::J::J::J::J::J::J::J::J::J::J::J::J::J::J::J::J::J::J::J::J::J::J::J::J::J::J::J::J::J::J::J::[]),h⟩=some (.ret,⟨(J::J::.int .i64 x::J::J::J::J::J::J::J::J::J::J::J::J::J::J::J::J::J::J::J::J::J::J::J::J::J::J::J::J::J::J::J::J::J::J::J::J::J::J::J::J::J::J::J::J::J::J::J::J::J::J::J::J::J::J::J::J::J::J::J::J::J::J::J::J::J::[]),h.set r (rfO w a' true)⟩))∨(∃ a':Nat,a'≤l.length∧aAp (aA7 (lim G0.cfg) N aCM) m ⟨(.ptr r 0 0 0::J::J::.int .i64 n::.int .i64 ((128 ^ i:Nat):Int)::.int .i64 i::J::J::J::J::J::J::J::J::J::J::J::J::J::J::J::J::J::J::J::J::J::J::J::J::J::J::J::J::J::J::J::J::J::J::J::J::J::J::J::J::J::J::J::J::J::J::J::J::J::J::J::J::J::J::J::J::J::J::J::J::J::J::[]),h⟩=some (.exit 0,⟨(.ptr r 0 0 0::J::J::J::J::J::J::J::J::J::J::J::J::J::J::J::J::J::J::J::J::J::J::J::J::J::J::J::J::J::J::J::J::J::J::J::J::J::J::J::J::J::J::J::J::J::J::J::J::J::J::J::J::J::J::J::J::J::J::J::J::J::J::J::J::J::J::J::[]),h.set r (rfO w a' dg)⟩))):=by
 have nl:=hl.len
 intro d
 induction d with
 | zero =>
  intro i m n a h h1 h2 hb ha er
  obtain ⟨m,rfl⟩:∃ q,m=q+1:=⟨m - 1,by omega⟩
  have hi:i=5:=by omega
  subst hi
  have h3:¬ (((5:Nat):Int) < 5):=by omega
  have no:∀ l:List UInt8,rdG 5 n l=none:=fun l=>by
   cases l with
   | nil=>rfl
   | cons c l=>unfold rdG;rw [if_pos (.inl (by omega))]
  rw [no]
  refine ⟨fun x rest e=>(by cases e),fun _=>.inr ⟨a,ha,?_⟩⟩
  have es:=aBi er
  rw [es]
  simp only [aAc,aDq,Zaf,Zag,Zah,Zak,Zal,Zan,Zao,Zap,Zaw,Zaz,Zbc,Zbi,Zbl,Zbm,Zbn,Zbo,Zbp,Zbu,Zcz,Zda,Zdb,Zdf,Zdg,Zdh,Q2,Q3,Q0,Q1,Zdl,decide_false,eq_self,h3]
 | succ d ih =>
  intro i m n a h h1 h2 hb ha er
  obtain ⟨m,rfl⟩:∃ q,m=q+1:=⟨m - 1,by omega⟩
  have h3:(i:Int) < 5:=by omega
  have hw:=aB6 (n:=i) (by omega)
  have k0:=aTo er
  have k1:=aTn er
  by_cases c0:a < l.length
  case neg =>
   have d0:¬ ((a:Int) < l.length):=by omega
   rw [List.drop_of_length_le (by omega:l.length≤a)]
   refine ⟨fun x rest e=>(by cases e),fun _=>.inr ⟨a,ha,?_⟩⟩
   have es:=aBi er
   rw [es]
   simp only [aAc,aDq,Zaf,Zag,Zah,Zak,Zal,Zan,Zao,Zap,Zaw,Zaz,Zbc,Zbf,Zbk,Zbm,Zbn,Zbo,Zbp,Zbs,Zbu,Zcc,Zcd,Zck,Zcz,Zda,Zdb,Zdf,Zdg,Zdh,Q2,Q3,Q0,Q1,Zdl,Zeb,decide_true,decide_false,Nat.reduceAdd,eq_self,h3,aBD,k0,k1,nl,d0]
  case pos =>
  have d0:(a:Int) < l.length:=by omega
  have wa:IntKind.i64.wrap ((a:Int)+1)=((a+1:Nat):Int):=aB6 (by omega)
  have ix:=hl.ix h .i64 a c0
  obtain ⟨c,hcc⟩:∃ c,c=l[a]:=⟨_,rfl⟩
  have hc:c.toNat < 256:=UInt8.toNat_lt _
  rw [List.drop_eq_getElem_cons c0,← hcc]
  rw [← hcc] at ix
  have s1:=aVF er (a+1)
  obtain ⟨h1',hh1⟩:∃ h1',h1'=h.set r (rfO w (a+1) dg):=⟨_,rfl⟩
  rw [← hh1] at s1
  have er1:h1'[r]?=some (rfO w (a+1) dg):=by rw [hh1];exact aAh er
  have hp:128 ^ i≤268435456:=by
   have:128 ^ i≤128 ^ 4:=Nat.pow_le_pow_right (by decide) (by omega)
   rw [aQy] at this
   exact this
  have hm:c.toNat % 128*128 ^ i≤127*128 ^ i:=Nat.mul_le_mul_right _ (by omega)
  have q0:IntKind.i64.wrap (c.toNat:Int)=(c.toNat:Int):=w64 (by omega) (by omega)
  have q1:=fun q=>aVU q c.toNat
  have q2:IntKind.i64.wrap (((c.toNat % 128:Nat):Int)*((128 ^ i:Nat):Int))=((c.toNat % 128*128 ^ i:Nat):Int):=by
   have:((c.toNat % 128:Nat):Int)*((128 ^ i:Nat):Int)=((c.toNat % 128*128 ^ i:Nat):Int):=by norm_cast
   rw [this,w64 (by omega) (by omega)]
  have q3:IntKind.i64.wrap ((n:Int)+((c.toNat % 128*128 ^ i:Nat):Int))=((n+c.toNat % 128*128 ^ i:Nat):Int):=by rw [w64 (by omega) (by omega)];omega
  have q4:IntKind.i64.wrap (((128 ^ i:Nat):Int)*128)=((128 ^ (i+1):Nat):Int):=by
   have:128 ^ (i+1)=128 ^ i*128:=Nat.pow_succ ..
   rw [this,w64 (by omega) (by omega)];omega
  obtain ⟨n',hn'⟩:∃ n',n'=n+c.toNat % 128*128 ^ i:=⟨_,rfl⟩
  have hb':n' < 128 ^ (i+1):=by rw [hn',Nat.pow_succ];omega
  have bad:(∀ x rest,rdG i n (c::l.drop (a+1))≠some (x,false,rest))=(∀ x rest,rdG i n (c::l.drop (a+1))≠some (x,false,rest)):=rfl
  by_cases c3:c.toNat < 128
  case neg =>
   have d3:¬ (c.toNat:Int) < 128:=by omega
   have eq:rdG i n (c::l.drop (a+1))=rdG (i+1) n' (l.drop (a+1)):=by
    have e1:rdG i n (c::l.drop (a+1))=if 4 < i∨(i=4∧7 < c.toNat) then none else if c.toNat < 128 then some (n+c.toNat % 128*128 ^ i,decide (c.toNat=0) && decide (0 < i),l.drop (a+1)) else rdG (i+1) (n+c.toNat % 128*128 ^ i) (l.drop (a+1)):=by rw [rdG]
    rw [e1,← hn']
    by_cases c4:i=4
    ·rw [if_pos (.inr ⟨c4,by omega⟩)]
     subst c4
     cases l.drop (a+1) with
     | nil=>rfl
     | cons z zs=>rw [rdG,if_pos (.inl (by omega))]
    ·rw [if_neg (by omega),if_neg c3]
   rw [eq]
   have run:aAp (aA7 (lim G0.cfg) N aCM) (m+1) ⟨(.ptr r 0 0 0::J::J::.int .i64 n::.int .i64 ((128 ^ i:Nat):Int)::.int .i64 i::J::J::J::J::J::J::J::J::J::J::J::J::J::J::J::J::J::J::J::J::J::J::J::J::J::J::J::J::J::J::J::J::J::J::J::J::J::J::J::J::J::J::J::J::J::J::J::J::J::J::J::J::J::J::J::J::J::J::J::J::J::J::[]),h⟩=aAp (aA7 (lim G0.cfg) N aCM) m ⟨(.ptr r 0 0 0::J::J::.int .i64 n'::.int .i64 ((128 ^ (i+1):Nat):Int)::.int .i64 (i+1:Nat)::J::J::J::J::J::J::J::J::J::J::J::J::J::J::J::J::J::J::J::J::J::J::J::J::J::J::J::J::J::J::J::J::J::J::J::J::J::J::J::J::J::J::J::J::J::J::J::J::J::J::J::J::J::J::J::J::J::J::J::J::J::J::[]),h1'⟩:=by
    rw [hn']
    simp only [aAc,aDq,Zae,Zaf,Zag,Zah,Zai,Zak,Zan,Zao,Zar,Zav,Zaw,Zay,Zbc,Zbe,Zbf,Zbk,Zbm,Zbn,Zbo,Zbp,Zbs,Zbt,Zbu,Zbw,Zcc,Zcd,Zcf,Zck,Zcz,Zda,Zdb,Zdc,Zdf,Zdg,Zdh,Q2,Q3,Q0,Q1,Zdi,Zdk,Zdl,Zeb,decide_true,decide_false,Nat.reduceAdd,eq_self,h3,aBD,k0,k1,nl,d0,ix,aE6,cvI,q0,wa,s1,q1,q2,q3,q4,d3,hw]
   obtain ⟨j1,j2⟩:=ih (i+1) m n' (a+1) h1' (by omega) (by omega) hb' (by omega) er1
   rw [run]
   have st:∀ o,h1'.set r o=h.set r o:=fun o=>by rw [hh1,set_set]
   simp only [st] at j1 j2
   exact ⟨j1,j2⟩
  case pos =>
  have d3:(c.toNat:Int) < 128:=by omega
  have e1:rdG i n (c::l.drop (a+1))=if 4 < i∨(i=4∧7 < c.toNat) then none else some (n',decide (c.toNat=0) && decide (0 < i),l.drop (a+1)):=by rw [rdG,if_pos c3,← hn']
  have s2:=aQu er1 true
  have st:h1'.set r (rfO w (a+1) true)=h.set r (rfO w (a+1) true):=by rw [hh1,set_set]
  rw [st] at s2
  by_cases c4:i=4∧7 < c.toNat
  case pos =>
   rw [e1,if_pos (.inr c4)]
   have d4:decide ((c.toNat:Int)=0)=false:=decide_eq_false (by omega)
   have d5:(2147483647:Int) < n':=Int.ofNat_lt.2 (aVS hn' c4.1 c4.2 c3)
   rw [hn'] at d5
   refine ⟨fun x rest e=>(by cases e),fun _=>.inl ⟨n',a+1,c0,?_⟩⟩
   rw [hn']
   simp only [aAc,aDq,Zae,Zaf,Zag,Zah,Zai,Zak,Zam,Zan,Zao,Zaq,Zas,Zav,Zba,Zbc,Zbe,Zbf,Zbg,Zbi,Zbk,Zbl,Zbm,Zbn,Zbo,Zbp,Zbs,Zbt,Zbu,Zbw,Zcc,Zcd,Zcf,Zck,Zcz,Zda,Zdb,Zdc,Zdf,Zdg,Zdh,Q2,Q3,Q0,Q1,Zdi,Zdk,Zdl,Zdn,Zdp,Zeb,decide_true,Nat.reduceAdd,eq_self,h3,aBD,k0,k1,nl,d0,ix,aE6,cvI,q0,wa,s1,q1,q2,q3,q4,d3,d4,d5,s2]
  case neg =>
  have c5:¬ (4 < i∨(i=4∧7 < c.toNat)):=fun h=>h.elim (fun h=>by omega) c4
  rw [e1,if_neg c5]
  have d5:¬ (2147483647:Int) < n':=fun f=>absurd (Int.ofNat_lt.1 f) (Nat.not_lt.2 (aTM hn' (by omega) hb c4))
  rw [hn'] at d5
  by_cases c6:c.toNat=0
  case neg =>
   have d4:decide ((c.toNat:Int)=0)=false:=decide_eq_false (by omega)
   have z:(decide (c.toNat=0) && decide (0 < i))=false:=by simp [c6]
   rw [z]
   refine ⟨fun x rest e => ?_,fun hno=>absurd rfl (hno n' _)⟩
   cases e
   refine ⟨a+1,by omega,rfl,?_⟩
   rw [hn',← hh1]
   simp only [aAc,aDq,Zae,Zaf,Zag,Zah,Zai,Zak,Zam,Zan,Zao,Zaq,Zas,Zav,Zaw,Zba,Zbc,Zbe,Zbf,Zbg,Zbi,Zbk,Zbl,Zbm,Zbn,Zbo,Zbp,Zbs,Zbt,Zbu,Zbw,Zcc,Zcd,Zcf,Zck,Zcz,Zda,Zdb,Zdc,Zdf,Zdg,Zdh,Q2,Q3,Q0,Q1,Zdi,Zdk,Zdl,Zdn,Zdp,Zeb,decide_true,decide_false,Nat.reduceAdd,eq_self,h3,aBD,k0,k1,nl,d0,ix,aE6,cvI,q0,wa,s1,q1,q2,q3,q4,d3,d4,d5]
  case pos =>
  have d4:decide ((c.toNat:Int)=0)=true:=decide_eq_true (by omega)
  by_cases c7:0 < i
  case pos =>
   have d7:(0:Int) < i:=by omega
   have z:(decide (c.toNat=0) && decide (0 < i))=true:=by simp [c6,c7]
   rw [z]
   refine ⟨fun x rest e=>(by cases e),fun _=>.inl ⟨n',a+1,c0,?_⟩⟩
   rw [hn']
   simp only [aAc,aDq,Zae,Zaf,Zag,Zah,Zai,Zak,Zam,Zan,Zao,Zaq,Zas,Zav,Zba,Zbc,Zbe,Zbf,Zbh,Zbk,Zbm,Zbn,Zbo,Zbp,Zbs,Zbt,Zbu,Zbw,Zcc,Zcd,Zcf,Zck,Zcz,Zda,Zdb,Zdc,Zdf,Zdg,Zdh,Q2,Q3,Q0,Q1,Zdi,Zdk,Zdl,Zdn,Zdp,Zeb,decide_true,Nat.reduceAdd,eq_self,h3,aBD,k0,k1,nl,d0,ix,aE6,cvI,q0,wa,s1,q1,q2,q3,q4,d3,d4,d7,s2]
  case neg =>
   have d7:¬ (0:Int) < i:=by omega
   have z:(decide (c.toNat=0) && decide (0 < i))=false:=by simp [c7]
   rw [z]
   refine ⟨fun x rest e => ?_,fun hno=>absurd rfl (hno n' _)⟩
   cases e
   refine ⟨a+1,by omega,rfl,?_⟩
   rw [hn',← hh1]
   simp only [aAc,aDq,Zae,Zaf,Zag,Zah,Zai,Zak,Zam,Zan,Zao,Zaq,Zas,Zav,Zaw,Zba,Zbc,Zbe,Zbf,Zbg,Zbk,Zbl,Zbm,Zbn,Zbo,Zbp,Zbs,Zbt,Zbu,Zbw,Zcc,Zcd,Zcf,Zck,Zcz,Zda,Zdb,Zdc,Zdf,Zdg,Zdh,Q2,Q3,Q0,Q1,Zdi,Zdk,Zdl,Zdn,Zdp,Zeb,decide_true,decide_false,Nat.reduceAdd,eq_self,h3,aBD,k0,k1,nl,d0,ix,aE6,cvI,q0,wa,s1,q1,q2,q3,q4,d3,d4,d7,d5]
theorem aKo (hl:LiB l w) (hn:l.length≤1000000000) {a:Nat} {h:aA0} (ha:a≤l.length) (er:h[r]?=some (rfO w a false)) :
  (∀ x rest,aDz (l.drop a)=some (x,rest)→∃ a',a'≤l.length∧l.drop a'=rest∧lim G0.cfg (.func 25) [.ptr r 0 0 0] h=some (.int .i64 x,h.set r (rfO w a' false))) ∧
  (aDz (l.drop a)=none→∃ (x:Int) (a':Nat),a'≤l.length∧lim G0.cfg (.func 25) [.ptr r 0 0 0] h=some (.int .i64 x,h.set r (rfO w a' true))):=by
 obtain ⟨k1,k2⟩:=aTm (N:=6) hl hn false 5 0 6 0 a h (by omega) (by omega) (by decide) ha er
 have p0:((128 ^ 0:Nat):Int)=1:=rfl
 rw [z0,p0] at k1 k2
 refine ⟨fun x rest e => ?_,fun e => ?_⟩
 ·have e':rdG 0 0 (l.drop a)=some (x,false,rest):=by
   unfold aDz at e
   split at e
   ·rename_i c;cases e;exact c
   ·cases e
  obtain ⟨a',h1,h2,e2⟩:=k1 x rest e'
  refine ⟨a',h1,h2,aAW rfl aFp 6 ?_⟩
  rw [aFo]
  simp only [Zaf,Zag,Zai,Zaj,Zak,Zan,Zao,Zaq,Zas,Zax,Zbm,Zbo,Zcy,Zda,Zdb,Zdf,Zdg,Zdh,Q2,Q3,Q0,Q1,Q9,Q4,Q5,Nat.reduceAdd,Nat.reduceSub,eq_self,Q4,Q5,Q6,Q7,Q8,Z0,e2,aA5,aA4,aA8]
 ·have no:∀ x rest,rdG 0 0 (l.drop a)≠some (x,false,rest):=fun x rest c=>by
   unfold aDz at e
   rw [c] at e
   cases e
  rcases k2 no with ⟨x,a',l2,e2⟩ | ⟨a',l2,e2⟩
  ·refine ⟨x,a',l2,aAW rfl aFp 6 ?_⟩
   rw [aFo]
   simp only [Zaf,Zag,Zai,Zaj,Zak,Zan,Zao,Zaq,Zas,Zax,Zbm,Zbo,Zcy,Zda,Zdb,Zdf,Zdg,Zdh,Q2,Q3,Q0,Q1,Q9,Q4,Q5,Nat.reduceAdd,Nat.reduceSub,eq_self,Q4,Q5,Q6,Q7,Q8,Z0,e2,aA5,aA4,aA8]
  ·have s2:=aQu (aAh er (y:=rfO w a' false)) true
   rw [set_set] at s2
   refine ⟨0,a',l2,aAW rfl aFp 6 ?_⟩
   rw [aFo]
   simp only [Zaf,Zag,Zai,Zaj,Zak,Zam,Zan,Zao,Zat,Zax,Zbc,Zbe,Zbm,Zbo,Zbt,Zcc,Zcd,Zcy,Zcz,Zda,Zdb,Zdc,Zdf,Zdg,Zdh,Q2,Q3,Q0,Q1,Q9,Zeb,Q4,Q5,Nat.reduceAdd,Nat.reduceSub,eq_self,Q4,Q5,Q6,Q7,Q8,Z0,e2,aBD,s2,aA5,aA4,aA8]
theorem aTV (hl:LiB l w) (hn:l.length≤1000000000) {a:Nat} {h:aA0} (ha:a≤l.length) (er:h[r]?=some (rfO w a true)):∃ (x:Int) (a':Nat),lim G0.cfg (.func 25) [.ptr r 0 0 0] h=some (.int .i64 x,h.set r (rfO w a' true)):=by
 obtain ⟨k1,k2⟩:=aTm (N:=6) hl hn true 5 0 6 0 a h (by omega) (by omega) (by decide) ha er
 have p0:((128 ^ 0:Nat):Int)=1:=rfl
 rw [z0,p0] at k1 k2
 by_cases c:∃ x rest,rdG 0 0 (l.drop a)=some (x,false,rest)
 ·obtain ⟨x,rest,c⟩:=c
  obtain ⟨a',h1,h2,e2⟩:=k1 x rest c
  refine ⟨x,a',aAW rfl aFp 6 ?_⟩
  rw [aFo]
  simp only [Zaf,Zag,Zai,Zaj,Zak,Zan,Zao,Zaq,Zas,Zax,Zbm,Zbo,Zcy,Zda,Zdb,Zdf,Zdg,Zdh,Q2,Q3,Q0,Q1,Q9,Q4,Q5,Nat.reduceAdd,Nat.reduceSub,eq_self,Q4,Q5,Q6,Q7,Q8,Z0,e2,aA5,aA4,aA8]
 ·rcases k2 (fun x rest e=>c ⟨x,rest,e⟩) with ⟨x,a',_,e2⟩ | ⟨a',_,e2⟩
  ·refine ⟨x,a',aAW rfl aFp 6 ?_⟩
   rw [aFo]
   simp only [Zaf,Zag,Zai,Zaj,Zak,Zan,Zao,Zaq,Zas,Zax,Zbm,Zbo,Zcy,Zda,Zdb,Zdf,Zdg,Zdh,Q2,Q3,Q0,Q1,Q9,Q4,Q5,Nat.reduceAdd,Nat.reduceSub,eq_self,Q4,Q5,Q6,Q7,Q8,Z0,e2,aA5,aA4,aA8]
  ·have s2:=aQu (aAh er (y:=rfO w a' true)) true
   rw [set_set] at s2
   refine ⟨0,a',aAW rfl aFp 6 ?_⟩
   rw [aFo]
   simp only [Zaf,Zag,Zai,Zaj,Zak,Zam,Zan,Zao,Zat,Zax,Zbc,Zbe,Zbm,Zbo,Zbt,Zcc,Zcd,Zcy,Zcz,Zda,Zdb,Zdc,Zdf,Zdg,Zdh,Q2,Q3,Q0,Q1,Q9,Zeb,Q4,Q5,Nat.reduceAdd,Nat.reduceSub,eq_self,Q4,Q5,Q6,Q7,Q8,Z0,e2,aBD,s2,aA5,aA4,aA8]
end
end Go.Proofs.Ytgeedikghjcebaa.Ai
namespace Go.Proofs.Ytgeedikghjcebaa.Ai
open Go Go.Proofs
open AV renaming junk → J
open List renaming getD_cons_zero → Q0, getD_cons_succ → Q1, set_cons_zero → Q2, set_cons_succ → Q3, nil_append → Q4, cons_append → Q5
open Bool renaming not_false → Q6
set_option linter.unusedVariables false
set_option linter.unusedSimpArgs false
set_option maxRecDepth 10000
set_option maxHeartbeats 4000000
section
variable {r B N : Nat} {l : List UInt8} {w : AV}
theorem aVC (hl:LiB l w) (hn:l.length≤10000) (hr:r < B) (t2 t5 t6 t7:AV) (n:Nat) (hnn:n≤2147483648) :
  ∀ (d i m a:Nat) (v:AV) (xs:List Int) (q:Option Nat) (h:aA0),l.length - a≤d→d+1 < m→i≤n→a≤l.length→i+(l.length - a)≤20000→h[r]?=some (rfO w a false)→aAi 1 (eIs xs) v h q→xs.length=i→(∀ i,q=some i→B≤i)→B≤h.length →
  (∀ ys rest,aBX (n - i) (l.drop a)=some (ys,rest)→∃ (v':AV) (q':Option Nat) (h':aA0) (a':Nat),aAp (aA7 (lim G0.cfg) N aCN) m ⟨(J::J::t2::J::.ptr r 0 0 0::t5::t6::t7::.int .i64 n::v::.int .i64 i::J::J::J::J::J::J::J::J::J::J::J::J::J::J::J::J::J::J::J::J::J::J::J::J::J::J::J::J::J::J::J::J::J::J::J::J::J::J::J::J::J::J::J::J::J::J::J::J::J::J::J::J::J::J::J::J::J::J::J::J::J::J::J::J::J::J::J::J::J::J::J::J::J::J::J::J::J::J::J::J::J::J::J::J::J::J::J::J::J::J::J::J::J::J::J::J::J::J::J::J::J::J::J::J::J::J::J::J::J::J::J::J::J::J::J::J::J::J::J::J::J::J::J::J::[]),h⟩=some (.exit 2,⟨(J::J::t2::J::.ptr r 0 0 0::t5::t6::t7::J::v'::J::J::J::J::J::J::J::J::J::J::J::J::J::J::J::J::J::J::J::J::J::J::J::J::J::J::J::J::J::J::J::J::J::J::J::J::J::J::J::J::J::J::J::J::J::J::J::J::J::J::J::J::J::J::J::J::J::J::J::J::J::J::J::J::J::J::J::J::J::J::J::J::J::J::J::J::J::J::J::J::J::J::J::J::J::J::J::J::J::J::J::J::J::J::J::J::J::J::J::J::J::J::J::J::J::J::J::J::J::J::J::J::J::J::J::J::J::J::J::J::J::J::J::J::J::[]),h'⟩) ∧
   a'≤l.length∧l.drop a'=rest∧h'[r]?=some (rfO w a' false)∧aAi 1 (eIs (xs++ys)) v' h' q'∧(∀ i,q'=some i→B≤i)∧B≤h'.length∧(∀ (j:Nat) (o:AObj),j < B→j≠r→h[j]?=some o→h'[j]?=some o)) ∧
  (aBX (n - i) (l.drop a)=none→∃ (v':AV) (q':Option Nat) (h':aA0) (a':Nat) (ys:List Int),aAp (aA7 (lim G0.cfg) N aCN) m ⟨(J::J::t2::J::.ptr r 0 0 0::t5::t6::t7::.int .i64 n::v::.int .i64 i::J::J::J::J::J::J::J::J::J::J::J::J::J::J::J::J::J::J::J::J::J::J::J::J::J::J::J::J::J::J::J::J::J::J::J::J::J::J::J::J::J::J::J::J::J::J::J::J::J::J::J::J::J::J::J::J::J::J::J::J::J::J::J::J::J::J::J::J::J::J::J::J::J::J::J::J::J::J::J::J::J::J::J::J::J::J::J::J::J::J::J::J::J::J::J::J::J::J::J::J::J::J::J::J::J::J::J::J::J::J::J::J::J::J::J::J::J::J::J::J::J::J::J::J::[]),h⟩=some (.exit 2,⟨(J::J::t2::J::.ptr r 0 0 0::t5::t6::t7::J::v'::J::J::J::J::J::J::J::J::J::J::J::J::J::J::J::J::J::J::J::J::J::J::J::J::J::J::J::J::J::J::J::J::J::J::J::J::J::J::J::J::J::J::J::J::J::J::J::J::J::J::J::J::J::J::J::J::J::J::J::J::J::J::J::J::J::J::J::J::J::J::J::J::J::J::J::J::J::J::J::J::J::J::J::J::J::J::J::J::J::J::J::J::J::J::J::J::J::J::J::J::J::J::J::J::J::J::J::J::J::J::J::J::J::J::J::J::J::J::J::J::J::J::J::J::J::[]),h'⟩) ∧
   h'[r]?=some (rfO w a' true)∧aAi 1 (eIs ys) v' h' q'∧(∀ i,q'=some i→B≤i)∧B≤h'.length∧(∀ (j:Nat) (o:AObj),j < B→j≠r→h[j]?=some o→h'[j]?=some o)):=by
 intro d
 induction d with
 | zero =>
  intro i m a v xs q h h1 h2 hin ha hi er ow lx hq hB
  obtain ⟨m,rfl⟩:∃ q,m=q+1:=⟨m - 1,by omega⟩
  have k2:=aFG er
  by_cases c:i < n
  case neg =>
   have d0:¬ (i:Int) < n:=by omega
   have e0:n - i=0:=by omega
   rw [e0]
   refine ⟨fun ys rest e => ?_,fun e=>(by cases e)⟩
   cases e
   refine ⟨v,q,h,a,?_,ha,rfl,er,by rw [List.append_nil];exact ow,hq,hB,fun _ _ _ _ e=>e⟩
   simp only [aAc,aC6,Zaf,Zag,Zah,Zak,Zal,Zan,Zao,Zap,Zaw,Zaz,Zbc,Zbi,Zbl,Zbm,Zbn,Zbo,Zbp,Zbu,Zcz,Zda,Zdb,Zdf,Zdg,Zdh,Q2,Q3,Q0,Q1,Zdl,decide_false,eq_self,d0]
  case pos =>
  have d0:(i:Int) < n:=by omega
  obtain ⟨k,hk⟩:∃ k,n - i=k+1:=⟨n - i - 1,by omega⟩
  have en:l.drop a=[]:=List.drop_of_length_le (by omega)
  obtain ⟨_,t2'⟩:=aKo hl (by omega) ha er
  have nn:aDz (l.drop a)=none:=by rw [en];rfl
  obtain ⟨x,a',_,e1⟩:=t2' nn
  have e2:aBX (k+1) (l.drop a)=none:=by simp only [aBX,nn]
  rw [hk,e2]
  refine ⟨fun ys rest e=>(by cases e),fun _ => ?_⟩
  obtain ⟨h1',hh1⟩:∃ h1',h1'=h.set r (rfO w a' true):=⟨_,rfl⟩
  rw [← hh1] at e1
  have er1:h1'[r]?=some (rfO w a' true):=by rw [hh1];exact aAh er
  have f1:∀ (j:Nat) (o:AObj),j≠r→h[j]?=some o→h1'[j]?=some o:=fun j o hj e=>by rw [hh1];exact aAk e (Ne.symm hj)
  have ow1:aAi 1 (eIs xs) v h1' q:=ow.frame (fun i o e g=>f1 i o (by have:=hq i e;omega) g)
  have t1:=aD8 h1' (.int .i64 0) (.int .i64 x) rfl rfl
  obtain ⟨iv,ver,H1,r1,r2,r3,r4,r5⟩:=ow1.push true (c:=[.int .i64 x]) rfl rfl (aBA _) 8 (by omega) (by rw [Zet];omega)
  rw [Zet] at r1 r2
  have ln1:h1'.length=h.length:=by rw [hh1];simp
  have tiv:B≤iv:=by
   rcases r4 with g | ⟨_,g⟩
   ·exact hq iv g
   ·omega
  have eS:eIs xs++[[.int .i64 x]]=eIs (xs++[x]):=by simp [eIs,eI]
  rw [eS] at r2
  have er2:=r3 r _ er1 (fun e=>by have:=hq r e;omega)
  have k3:=aFG er2
  have hw:=aB6 (n:=i) (by omega)
  obtain ⟨m,rfl⟩:∃ q,m=q+1:=⟨m - 1,by omega⟩
  refine ⟨_,_,H1,a',_,?_,er2,r2,fun i e=>by cases e;exact tiv,by omega,fun j o hj hn e=>r3 j o (f1 j o hn e) (fun e=>by have:=hq j e;omega)⟩
  by_cases c2:((i+1:Nat):Int) < n
  ·simp only [aAc,aC6,Zae,Zaf,Zag,Zah,Zai,Zak,Zal,Zan,Zao,Zap,Zar,Zav,Zaw,Zay,Zaz,Zbc,Zbd,Zbf,Zbk,Zbm,Zbn,Zbo,Zbp,Zbs,Zbu,Zbv,Zcc,Zcd,Zcm,Zcr,Zct,Zcu,Zcz,Zda,Zdb,Zdd,Zde,Zdf,Zdg,Zdh,Q2,Q3,Q0,Q1,Zdi,Zdl,Zdv,Zeb,decide_true,Bool.not_true,Q6,Nat.reduceAdd,eq_self,Q5,Q4,d0,aBD,k2,e1,ev2,t1,r1,hw,c2,k3]
  ·simp only [aAc,aC6,Zae,Zaf,Zag,Zah,Zai,Zak,Zal,Zan,Zao,Zap,Zar,Zav,Zaw,Zay,Zaz,Zbc,Zbd,Zbf,Zbi,Zbk,Zbl,Zbm,Zbn,Zbo,Zbp,Zbs,Zbu,Zbv,Zcc,Zcd,Zcm,Zcr,Zct,Zcu,Zcz,Zda,Zdb,Zdd,Zde,Zdf,Zdg,Zdh,Q2,Q3,Q0,Q1,Zdi,Zdl,Zdv,Zeb,decide_true,decide_false,Q6,Nat.reduceAdd,eq_self,Q5,Q4,d0,aBD,k2,e1,ev2,t1,r1,hw,c2]
 | succ d ih =>
  intro i m a v xs q h h1 h2 hin ha hi er ow lx hq hB
  obtain ⟨m,rfl⟩:∃ q,m=q+1:=⟨m - 1,by omega⟩
  have k2:=aFG er
  by_cases c:i < n
  case neg =>
   have d0:¬ (i:Int) < n:=by omega
   have e0:n - i=0:=by omega
   rw [e0]
   refine ⟨fun ys rest e => ?_,fun e=>(by cases e)⟩
   cases e
   refine ⟨v,q,h,a,?_,ha,rfl,er,by rw [List.append_nil];exact ow,hq,hB,fun _ _ _ _ e=>e⟩
   simp only [aAc,aC6,Zaf,Zag,Zah,Zak,Zal,Zan,Zao,Zap,Zaw,Zaz,Zbc,Zbi,Zbl,Zbm,Zbn,Zbo,Zbp,Zbu,Zcz,Zda,Zdb,Zdf,Zdg,Zdh,Q2,Q3,Q0,Q1,Zdl,decide_false,eq_self,d0]
  case pos =>
  have d0:(i:Int) < n:=by omega
  obtain ⟨k,hk⟩:∃ k,n - i=k+1:=⟨n - i - 1,by omega⟩
  have hk2:n - (i+1)=k:=by omega
  have hw:=aB6 (n:=i) (by omega)
  obtain ⟨t1',t2'⟩:=aKo hl (by omega) ha er
  rw [hk]
  cases nn:aDz (l.drop a) with
  | none =>
   obtain ⟨x,a',_,e1⟩:=t2' nn
   have e2:aBX (k+1) (l.drop a)=none:=by simp only [aBX,nn]
   rw [e2]
   refine ⟨fun ys rest e=>(by cases e),fun _ => ?_⟩
   obtain ⟨h1',hh1⟩:∃ h1',h1'=h.set r (rfO w a' true):=⟨_,rfl⟩
   rw [← hh1] at e1
   have er1:h1'[r]?=some (rfO w a' true):=by rw [hh1];exact aAh er
   have f1:∀ (j:Nat) (o:AObj),j≠r→h[j]?=some o→h1'[j]?=some o:=fun j o hj e=>by rw [hh1];exact aAk e (Ne.symm hj)
   have ow1:aAi 1 (eIs xs) v h1' q:=ow.frame (fun i o e g=>f1 i o (by have:=hq i e;omega) g)
   have t1:=aD8 h1' (.int .i64 0) (.int .i64 x) rfl rfl
   obtain ⟨iv,ver,H1,r1,r2,r3,r4,r5⟩:=ow1.push true (c:=[.int .i64 x]) rfl rfl (aBA _) 8 (by omega) (by rw [Zet];omega)
   rw [Zet] at r1 r2
   have ln1:h1'.length=h.length:=by rw [hh1];simp
   have tiv:B≤iv:=by
    rcases r4 with g | ⟨_,g⟩
    ·exact hq iv g
    ·omega
   have eS:eIs xs++[[.int .i64 x]]=eIs (xs++[x]):=by simp [eIs,eI]
   rw [eS] at r2
   have er2:=r3 r _ er1 (fun e=>by have:=hq r e;omega)
   have k3:=aFG er2
   obtain ⟨m,rfl⟩:∃ q,m=q+1:=⟨m - 1,by omega⟩
   refine ⟨_,_,H1,a',_,?_,er2,r2,fun i e=>by cases e;exact tiv,by omega,fun j o hj hn e=>r3 j o (f1 j o hn e) (fun e=>by have:=hq j e;omega)⟩
   by_cases c2:((i+1:Nat):Int) < n
   ·simp only [aAc,aC6,Zae,Zaf,Zag,Zah,Zai,Zak,Zal,Zan,Zao,Zap,Zar,Zav,Zaw,Zay,Zaz,Zbc,Zbd,Zbf,Zbk,Zbm,Zbn,Zbo,Zbp,Zbs,Zbu,Zbv,Zcc,Zcd,Zcm,Zcr,Zct,Zcu,Zcz,Zda,Zdb,Zdd,Zde,Zdf,Zdg,Zdh,Q2,Q3,Q0,Q1,Zdi,Zdl,Zdv,Zeb,decide_true,Bool.not_true,Q6,Nat.reduceAdd,eq_self,Q5,Q4,d0,aBD,k2,e1,ev2,t1,r1,hw,c2,k3]
   ·simp only [aAc,aC6,Zae,Zaf,Zag,Zah,Zai,Zak,Zal,Zan,Zao,Zap,Zar,Zav,Zaw,Zay,Zaz,Zbc,Zbd,Zbf,Zbi,Zbk,Zbl,Zbm,Zbn,Zbo,Zbp,Zbs,Zbu,Zbv,Zcc,Zcd,Zcm,Zcr,Zct,Zcu,Zcz,Zda,Zdb,Zdd,Zde,Zdf,Zdg,Zdh,Q2,Q3,Q0,Q1,Zdi,Zdl,Zdv,Zeb,decide_true,decide_false,Q6,Nat.reduceAdd,eq_self,Q5,Q4,d0,aBD,k2,e1,ev2,t1,r1,hw,c2]
  | some p =>
   obtain ⟨x,rest1⟩:=p
   obtain ⟨a',g1,g2,e1⟩:=t1' x rest1 nn
   have hx:=aIm nn
   obtain ⟨h1',hh1⟩:∃ h1',h1'=h.set r (rfO w a' false):=⟨_,rfl⟩
   rw [← hh1] at e1
   have er1:h1'[r]?=some (rfO w a' false):=by rw [hh1];exact aAh er
   have f1:∀ (j:Nat) (o:AObj),j≠r→h[j]?=some o→h1'[j]?=some o:=fun j o hj e=>by rw [hh1];exact aAk e (Ne.symm hj)
   have ow1:aAi 1 (eIs xs) v h1' q:=ow.frame (fun i o e g=>f1 i o (by have:=hq i e;omega) g)
   have t1:=aD8 h1' (.int .i64 0) (.int .i64 x) rfl rfl
   obtain ⟨iv,ver,H1,r1,r2,r3,r4,r5⟩:=ow1.push true (c:=[.int .i64 x]) rfl rfl (aBA _) 8 (by omega) (by rw [Zet];omega)
   rw [Zet] at r1 r2
   have ln1:h1'.length=h.length:=by rw [hh1];simp
   have tiv:B≤iv:=by
    rcases r4 with g | ⟨_,g⟩
    ·exact hq iv g
    ·omega
   have eS:eIs xs++[[.int .i64 x]]=eIs (xs++[(x:Int)]):=by simp [eIs,eI]
   rw [eS] at r2
   obtain ⟨vv,hvv⟩:∃ vv,vv=AV.hsl iv ver 0 (xs.length+1) none:=⟨_,rfl⟩
   rw [← hvv] at r1 r2
   have er2:=r3 r _ er1 (fun e=>by have:=hq r e;omega)
   have lr:l.length - a' < l.length - a:=by
    have:=hx.2
    rw [← g2,List.length_drop,List.length_drop] at this
    exact this
   obtain ⟨j1,j2⟩:=ih (i+1) m a' vv (xs++[(x:Int)]) (some iv) H1 (by omega) (by omega) (by omega) g1 (by omega) er2 r2 (by simp [lx]) (fun i e=>by cases e;exact tiv) (by omega)
   rw [hk2,g2] at j1 j2
   have run:aAp (aA7 (lim G0.cfg) N aCN) (m+1) ⟨(J::J::t2::J::.ptr r 0 0 0::t5::t6::t7::.int .i64 n::v::.int .i64 i::J::J::J::J::J::J::J::J::J::J::J::J::J::J::J::J::J::J::J::J::J::J::J::J::J::J::J::J::J::J::J::J::J::J::J::J::J::J::J::J::J::J::J::J::J::J::J::J::J::J::J::J::J::J::J::J::J::J::J::J::J::J::J::J::J::J::J::J::J::J::J::J::J::J::J::J::J::J::J::J::J::J::J::J::J::J::J::J::J::J::J::J::J::J::J::J::J::J::J::J::J::J::J::J::J::J::J::J::J::J::J::J::J::J::J::J::J::J::J::J::J::J::J::J::[]),h⟩=aAp (aA7 (lim G0.cfg) N aCN) m ⟨(J::J::t2::J::.ptr r 0 0 0::t5::t6::t7::.int .i64 n::vv::.int .i64 (i+1:Nat)::J::J::J::J::J::J::J::J::J::J::J::J::J::J::J::J::J::J::J::J::J::J::J::J::J::J::J::J::J::J::J::J::J::J::J::J::J::J::J::J::J::J::J::J::J::J::J::J::J::J::J::J::J::J::J::J::J::J::J::J::J::J::J::J::J::J::J::J::J::J::J::J::J::J::J::J::J::J::J::J::J::J::J::J::J::J::J::J::J::J::J::J::J::J::J::J::J::J::J::J::J::J::J::J::J::J::J::J::J::J::J::J::J::J::J::J::J::J::J::J::J::J::J::J::[]),H1⟩:=by
    simp only [aAc,aC6,Zae,Zaf,Zag,Zah,Zai,Zak,Zan,Zao,Zar,Zav,Zay,Zbc,Zbd,Zbf,Zbk,Zbm,Zbn,Zbo,Zbp,Zbs,Zbu,Zbv,Zcc,Zcd,Zcm,Zcr,Zct,Zcu,Zcz,Zda,Zdb,Zdd,Zde,Zdf,Zdg,Zdh,Q2,Q3,Q0,Q1,Zdi,Zdl,Zdv,Zeb,decide_true,Q6,Nat.reduceAdd,eq_self,Q5,Q4,d0,aBD,k2,e1,ev2,t1,r1,hw]
   rw [run]
   have eT:aBX (k+1) (l.drop a)=(aBX k rest1).map fun p=>((x:Int)::p.1,p.2):=by simp only [aBX,nn]
   have fF:∀ (j:Nat) (o:AObj),j < B→j≠r→h[j]?=some o→H1[j]?=some o:=fun j o hj hn e=>r3 j o (f1 j o hn e) (fun e=>by have:=hq j e;omega)
   rw [eT]
   cases tk:aBX k rest1 with
   | none =>
    refine ⟨fun ys rest e=>(by cases e),fun _ => ?_⟩
    obtain ⟨v',q',h',a2,ys,y1,y2,y3,y4,y5,y6⟩:=j2 tk
    exact ⟨v',q',h',a2,ys,y1,y2,y3,y4,y5,fun j o hj hn e=>y6 j o hj hn (fF j o hj hn e)⟩
   | some p =>
    obtain ⟨ys,rest⟩:=p
    refine ⟨fun ys' rest' e => ?_,fun e=>(by cases e)⟩
    cases e
    obtain ⟨v',q',h',a2,y1,y2,y3,y4,y5,y6,y7,y8⟩:=j1 ys rest tk
    rw [List.append_assoc] at y5
    exact ⟨v',q',h',a2,y1,y2,y3,y4,y5,y6,y7,fun j o hj hn e=>y8 j o hj hn (fF j o hj hn e)⟩
theorem aVD (hl:LiB l w) (hn:l.length≤10000) (hr:r < B) (hN:10005≤N) (t2 t5:AV) :
  ∀ (d j m a:Nat) (v:AV) (xss:List (List Int)) (cs:List (List AV)) (q:Option Nat) (S:Nat→Prop) (h:aA0),8=j+d→d+1 < m→a≤l.length→h[r]?=some (rfO w a false)→aAi 1 cs v h q→Nest eIs xss cs h S→xss.length=j→(∀ i,S i→B≤i∧i < h.length)→(∀ i,q=some i→B≤i∧¬ S i)→B≤h.length →
  (∀ yss rest,aBG d (l.drop a)=some (yss,rest)→∃ (v':AV) (cs':List (List AV)) (q':Option Nat) (S':Nat→Prop) (h':aA0) (a':Nat),aAp (aA7 (lim G0.cfg) N aC5) m ⟨(J::J::t2::J::.ptr r 0 0 0::t5::v::.int .i64 j::J::J::J::J::J::J::J::J::J::J::J::J::J::J::J::J::J::J::J::J::J::J::J::J::J::J::J::J::J::J::J::J::J::J::J::J::J::J::J::J::J::J::J::J::J::J::J::J::J::J::J::J::J::J::J::J::J::J::J::J::J::J::J::J::J::J::J::J::J::J::J::J::J::J::J::J::J::J::J::J::J::J::J::J::J::J::J::J::J::J::J::J::J::J::J::J::J::J::J::J::J::J::J::J::J::J::J::J::J::J::J::J::J::J::J::J::J::J::J::J::J::J::J::J::J::J::J::[]),h⟩=some (.exit 0,⟨(J::J::t2::J::.ptr r 0 0 0::t5::v'::J::J::J::J::J::J::J::J::J::J::J::J::J::J::J::J::J::J::J::J::J::J::J::J::J::J::J::J::J::J::J::J::J::J::J::J::J::J::J::J::J::J::J::J::J::J::J::J::J::J::J::J::J::J::J::J::J::J::J::J::J::J::J::J::J::J::J::J::J::J::J::J::J::J::J::J::J::J::J::J::J::J::J::J::J::J::J::J::J::J::J::J::J::J::J::J::J::J::J::J::J::J::J::J::J::J::J::J::J::J::J::J::J::J::J::J::J::J::J::J::J::J::J::J::J::J::J::J::[]),h'⟩) ∧
   a'≤l.length∧l.drop a'=rest∧h'[r]?=some (rfO w a' false)∧aAi 1 cs' v' h' q'∧Nest eIs (xss++yss) cs' h' S'∧(∀ i,S' i→B≤i)∧(∀ (j:Nat) (o:AObj),j < B→j≠r→h[j]?=some o→h'[j]?=some o)) ∧
  (aBG d (l.drop a)=none→∃ (v':AV) (h':aA0) (a':Nat),aAp (aA7 (lim G0.cfg) N aC5) m ⟨(J::J::t2::J::.ptr r 0 0 0::t5::v::.int .i64 j::J::J::J::J::J::J::J::J::J::J::J::J::J::J::J::J::J::J::J::J::J::J::J::J::J::J::J::J::J::J::J::J::J::J::J::J::J::J::J::J::J::J::J::J::J::J::J::J::J::J::J::J::J::J::J::J::J::J::J::J::J::J::J::J::J::J::J::J::J::J::J::J::J::J::J::J::J::J::J::J::J::J::J::J::J::J::J::J::J::J::J::J::J::J::J::J::J::J::J::J::J::J::J::J::J::J::J::J::J::J::J::J::J::J::J::J::J::J::J::J::J::J::J::J::J::J::J::[]),h⟩=some (.exit 0,⟨(J::J::t2::J::.ptr r 0 0 0::t5::v'::J::J::J::J::J::J::J::J::J::J::J::J::J::J::J::J::J::J::J::J::J::J::J::J::J::J::J::J::J::J::J::J::J::J::J::J::J::J::J::J::J::J::J::J::J::J::J::J::J::J::J::J::J::J::J::J::J::J::J::J::J::J::J::J::J::J::J::J::J::J::J::J::J::J::J::J::J::J::J::J::J::J::J::J::J::J::J::J::J::J::J::J::J::J::J::J::J::J::J::J::J::J::J::J::J::J::J::J::J::J::J::J::J::J::J::J::J::J::J::J::J::J::J::J::J::J::J::J::[]),h'⟩) ∧
   h'[r]?=some (rfO w a' true)∧(∀ (j:Nat) (o:AObj),j < B→j≠r→h[j]?=some o→h'[j]?=some o)):=by
 intro d
 induction d with
 | zero =>
  intro j m a v xss cs q S h h1 h2 ha er ow ns lx hS hq hB
  obtain ⟨m,rfl⟩:∃ q,m=q+1:=⟨m - 1,by omega⟩
  have h3:¬ ((j:Int) < 8):=by omega
  refine ⟨fun yss rest e => ?_,fun e=>(by cases e)⟩
  cases e
  refine ⟨v,cs,q,S,h,a,?_,ha,rfl,er,ow,by rw [List.append_nil];exact ns,fun i k=>(hS i k).1,fun _ _ _ _ e=>e⟩
  simp only [aAc,aEJ,Zaf,Zag,Zah,Zak,Zal,Zan,Zao,Zap,Zaw,Zaz,Zbc,Zbi,Zbl,Zbm,Zbn,Zbo,Zbp,Zbu,Zcz,Zda,Zdb,Zdf,Zdg,Zdh,Q2,Q3,Q0,Q1,Zdl,decide_false,eq_self,h3]
 | succ d ih =>
  intro j m a v xss cs q S h h1 h2 ha er ow ns lx hS hq hB
  obtain ⟨m,rfl⟩:∃ q,m=q+1:=⟨m - 1,by omega⟩
  have h3:(j:Int) < 8:=by omega
  have hw:=aB6 (n:=j) (by omega)
  have k2:=aFG er
  have lq:∀ i,q=some i→i < h.length:=fun i e=>by rw [e] at ow;exact ow.lt
  obtain ⟨t1',t2'⟩:=aKo hl (by omega) ha er
  -- the row that is read last, joined, and the next test
  have fin:∀ (x:Int) (a1:Nat) (h1' h4:aA0) (v4:AV) (q4:Option Nat) (ys:List Int) (a4:Nat),lim G0.cfg (.func 25) [.ptr r 0 0 0] h=some (.int .i64 x,h1') →
    aAp (aA7 (lim G0.cfg) N aCN) N ⟨(J::J::t2::J::.ptr r 0 0 0::t5::v::.int .i64 j::.int .i64 x::.nilS::.int .i64 0::J::J::J::J::J::J::J::J::J::J::J::J::J::J::J::J::J::J::J::J::J::J::J::J::J::J::J::J::J::J::J::J::J::J::J::J::J::J::J::J::J::J::J::J::J::J::J::J::J::J::J::J::J::J::J::J::J::J::J::J::J::J::J::J::J::J::J::J::J::J::J::J::J::J::J::J::J::J::J::J::J::J::J::J::J::J::J::J::J::J::J::J::J::J::J::J::J::J::J::J::J::J::J::J::J::J::J::J::J::J::J::J::J::J::J::J::J::J::J::J::J::J::J::J::[]),h1'⟩=some (.exit 2,⟨(J::J::t2::J::.ptr r 0 0 0::t5::v::.int .i64 j::J::v4::J::J::J::J::J::J::J::J::J::J::J::J::J::J::J::J::J::J::J::J::J::J::J::J::J::J::J::J::J::J::J::J::J::J::J::J::J::J::J::J::J::J::J::J::J::J::J::J::J::J::J::J::J::J::J::J::J::J::J::J::J::J::J::J::J::J::J::J::J::J::J::J::J::J::J::J::J::J::J::J::J::J::J::J::J::J::J::J::J::J::J::J::J::J::J::J::J::J::J::J::J::J::J::J::J::J::J::J::J::J::J::J::J::J::J::J::J::J::J::J::J::J::J::J::J::[]),h4⟩) →
    h4[r]?=some (rfO w a4 true)→aAi 1 (eIs ys) v4 h4 q4→(∀ i,q4=some i→B≤i)→(∀ (j:Nat) (o:AObj),j < h.length→j≠r→h[j]?=some o→h4[j]?=some o) →
    ∃ (v':AV) (h':aA0) (a':Nat),aAp (aA7 (lim G0.cfg) N aC5) (m+1) ⟨(J::J::t2::J::.ptr r 0 0 0::t5::v::.int .i64 j::J::J::J::J::J::J::J::J::J::J::J::J::J::J::J::J::J::J::J::J::J::J::J::J::J::J::J::J::J::J::J::J::J::J::J::J::J::J::J::J::J::J::J::J::J::J::J::J::J::J::J::J::J::J::J::J::J::J::J::J::J::J::J::J::J::J::J::J::J::J::J::J::J::J::J::J::J::J::J::J::J::J::J::J::J::J::J::J::J::J::J::J::J::J::J::J::J::J::J::J::J::J::J::J::J::J::J::J::J::J::J::J::J::J::J::J::J::J::J::J::J::J::J::J::J::J::J::[]),h⟩=some (.exit 0,⟨(J::J::t2::J::.ptr r 0 0 0::t5::v'::J::J::J::J::J::J::J::J::J::J::J::J::J::J::J::J::J::J::J::J::J::J::J::J::J::J::J::J::J::J::J::J::J::J::J::J::J::J::J::J::J::J::J::J::J::J::J::J::J::J::J::J::J::J::J::J::J::J::J::J::J::J::J::J::J::J::J::J::J::J::J::J::J::J::J::J::J::J::J::J::J::J::J::J::J::J::J::J::J::J::J::J::J::J::J::J::J::J::J::J::J::J::J::J::J::J::J::J::J::J::J::J::J::J::J::J::J::J::J::J::J::J::J::J::J::J::J::J::[]),h'⟩)∧h'[r]?=some (rfO w a' true)∧(∀ (j:Nat) (o:AObj),j < B→j≠r→h[j]?=some o→h'[j]?=some o):=by
   intro x a1 h1' h4 v4 q4 ys a4 e1 e2 er4 o4 hq4 f4
   have ow4:aAi 1 cs v h4 q:=ow.frame (fun i o e g=>f4 i o (lq i e) (by have:=(hq i e).1;omega) g)
   obtain ⟨lit,H1,iv,ver,H2,p1,p2,p3,p4,p5,p6⟩:=ow4.pushRow o4.cell ns.all 24 (by omega) (by rw [ns.len];omega) .nilS
   have er5:=p4 r _ er4 (fun e=>by have:=(hq r e).1;omega)
   have k3:=aFG er5
   obtain ⟨m,rfl⟩:∃ q,m=q+1:=⟨m - 1,by omega⟩
   refine ⟨.hsl iv ver 0 (cs.length+1) none,H2,a4,?_,er5,fun k o hk hn e=>p4 k o (f4 k o (by omega) hn e) (fun e=>by have:=(hq k e).1;omega)⟩
   by_cases c2:((j+1:Nat):Int) < 8
   ·simp only [aAc,aEJ,Zae,Zaf,Zag,Zah,Zai,Zaj,Zak,Zal,Zan,Zao,Zap,Zar,Zat,Zav,Zaw,Zax,Zay,Zaz,Zbc,Zbd,Zbf,Zbk,Zbm,Zbn,Zbo,Zbp,Zbs,Zbu,Zbv,Zcc,Zcd,Zcm,Zcr,Zct,Zcu,Zcz,Zda,Zdb,Zdd,Zde,Zdf,Zdg,Zdh,Q2,Q3,Q0,Q1,Zdi,Zdl,Zdv,Zeb,decide_true,Bool.not_true,Q6,Nat.reduceAdd,eq_self,Q5,Q4,h3,aBD,k2,e1,e2,ev2,p1,p2,hw,c2,k3]
   ·simp only [aAc,aEJ,Zae,Zaf,Zag,Zah,Zai,Zaj,Zak,Zal,Zan,Zao,Zap,Zar,Zat,Zav,Zaw,Zax,Zay,Zaz,Zbc,Zbd,Zbf,Zbi,Zbk,Zbl,Zbm,Zbn,Zbo,Zbp,Zbs,Zbu,Zbv,Zcc,Zcd,Zcm,Zcr,Zct,Zcu,Zcz,Zda,Zdb,Zdd,Zde,Zdf,Zdg,Zdh,Q2,Q3,Q0,Q1,Zdi,Zdl,Zdv,Zeb,decide_true,decide_false,Q6,Nat.reduceAdd,eq_self,Q5,Q4,h3,aBD,k2,e1,e2,ev2,p1,p2,hw,c2]
  cases nn:aDz (l.drop a) with
  | none =>
   obtain ⟨x,a',_,e1⟩:=t2' nn
   have e2:aBG (d+1) (l.drop a)=none:=by simp only [aBG,aH2,nn]
   rw [e2]
   refine ⟨fun ys rest e=>(by cases e),fun _ => ?_⟩
   have er1:(h.set r (rfO w a' true))[r]?=some (rfO w a' true):=aAh er
   have k4:=aFG er1
   have z:((0:Nat):Int)=0:=rfl
   obtain ⟨n,rfl⟩:∃ n,N=n+1:=⟨N - 1,by omega⟩
   refine fin x a' _ (h.set r (rfO w a' true)) .nilS none [] a' e1 ?_ er1 (aAi.nil 1 _) (fun _ e=>by cases e) (fun k o hk hn e=>aAk e (Ne.symm hn))
   by_cases c2:(0:Int) < x
   ·simp only [aAc,aC6,Zaf,Zag,Zah,Zak,Zal,Zan,Zao,Zap,Zaw,Zaz,Zbc,Zbf,Zbk,Zbm,Zbn,Zbo,Zbp,Zbs,Zbu,Zbv,Zcc,Zcd,Zcz,Zda,Zdb,Zdf,Zdg,Zdh,Q2,Q3,Q0,Q1,Zdl,Zdv,Zeb,decide_true,Bool.not_true,Nat.reduceAdd,eq_self,c2,aBD,k4]
   ·simp only [aAc,aC6,Zaf,Zag,Zah,Zak,Zal,Zan,Zao,Zap,Zaw,Zaz,Zbc,Zbi,Zbl,Zbm,Zbn,Zbo,Zbp,Zbu,Zcz,Zda,Zdb,Zdf,Zdg,Zdh,Q2,Q3,Q0,Q1,Zdl,decide_false,eq_self,c2]
  | some p =>
   obtain ⟨n,rest1⟩:=p
   obtain ⟨a1,g1,g2,e1⟩:=t1' n rest1 nn
   have hx:=aIm nn
   obtain ⟨h1',hh1⟩:∃ h1',h1'=h.set r (rfO w a1 false):=⟨_,rfl⟩
   rw [← hh1] at e1
   have er1:h1'[r]?=some (rfO w a1 false):=by rw [hh1];exact aAh er
   have f1:∀ (k:Nat) (o:AObj),k≠r→h[k]?=some o→h1'[k]?=some o:=fun k o hk e=>by rw [hh1];exact aAk e (Ne.symm hk)
   have ln1:h1'.length=h.length:=by rw [hh1];simp
   obtain ⟨j1,j2⟩:=aVC (N:=N) (B:=h1'.length) hl hn (aBz er1) t2 t5 v (.int .i64 j) n (by omega) (l.length - a1) 0 N a1 .nilS [] none h1' (Nat.le_refl _) (by omega) (by omega) g1 (by omega) er1 (aAi.nil 1 _) rfl (fun _ e=>by cases e) (Nat.le_refl _)
   rw [z0,Nat.sub_zero,g2] at j1 j2
   have eL:aH2 (l.drop a)=aBX n rest1:=by simp only [aH2,nn]
   cases tk:aBX n rest1 with
   | none =>
    have e2:aBG (d+1) (l.drop a)=none:=by simp only [aBG,eL,tk]
    rw [e2]
    refine ⟨fun ys rest e=>(by cases e),fun _ => ?_⟩
    obtain ⟨v4,q4,h4,a4,ys,y1,y2,y3,y4,y5,y6⟩:=j2 tk
    exact fin n a1 h1' h4 v4 q4 ys a4 e1 y1 y2 y3 (fun i e=>by have:=y4 i e;omega) (fun k o hk hn e=>y6 k o (by omega) hn (f1 k o hn e))
   | some p =>
    obtain ⟨ys,rest2⟩:=p
    obtain ⟨v4,q4,h4,a4,y1,y2,y3,y4,y5,y6,y7,y8⟩:=j1 ys rest2 tk
    rw [Q4] at y5
    have f4:∀ (k:Nat) (o:AObj),k < h.length→k≠r→h[k]?=some o→h4[k]?=some o:=fun k o hk hn e=>y8 k o (by omega) hn (f1 k o hn e)
    have ow4:aAi 1 cs v h4 q:=ow.frame (fun i o e g=>f4 i o (lq i e) (by have:=(hq i e).1;omega) g)
    have ns4:=ns.frame (h':=h4) (fun i o k e=>f4 i o (hS i k).2 (by have:=(hS i k).1;omega) e)
    obtain ⟨S',hS'⟩:∃ S':Nat→Prop,S'=fun i=>S i∨q4=some i:=⟨_,rfl⟩
    have q4l:∀ i,q4=some i→i < h4.length:=fun i e=>by rw [e] at y5;exact y5.lt
    have nS:∀ i,q=some i→¬ S' i:=fun i e hs=>by
     rw [hS'] at hs
     rcases hs with hs | hs
     ·exact (hq i e).2 hs
     ·have:=y6 i hs;have:=lq i e;omega
    obtain ⟨lit,H1,iv,ver,H2,p1,p2,p3,p4,p5,p6⟩:=ow4.pushRow y5.cell ns.all 24 (by omega) (by rw [ns.len];omega) .nilS
    obtain ⟨vv,hvv⟩:∃ vv,vv=AV.hsl iv ver 0 (cs.length+1) none:=⟨_,rfl⟩
    rw [← hvv] at p2 p3
    have er5:=p4 r _ y4 (fun e=>by have:=(hq r e).1;omega)
    have ns5:=((ns4.mono (S':=S') (fun i k=>by rw [hS'];exact .inl k)).push (x:=ys) y5 (fun i k=>by rw [hS'];exact .inr k)).frame (h':=H2) fun i o k e=>p4 i o e (fun f=>nS i f k)
    have hS5:∀ i,S' i→B≤i∧i < H2.length:=fun i hs=>by
     rw [hS'] at hs
     rcases hs with hs | hs
     ·have:=hS i hs;omega
     ·have:=y6 i hs;have:=q4l i hs;omega
    have q5:∀ i,some iv=some i→B≤i∧¬ S' i:=fun i e=>by
     cases e
     rcases p5 with g | ⟨_,g⟩
     ·exact ⟨(hq _ g).1,nS _ g⟩
     ·refine ⟨by omega,fun hs => ?_⟩
      rw [hS'] at hs
      rcases hs with hs | hs
      ·have:=hS _ hs;omega
      ·have:=q4l _ hs;omega
    obtain ⟨z1,z2⟩:=ih (j+1) m a4 vv (xss++[ys]) (cs++[[v4]]) (some iv) S' H2 (by omega) (by omega) y2 er5 p3 ns5 (by simp [lx]) hS5 q5 (by omega)
    rw [y3] at z1 z2
    have run:aAp (aA7 (lim G0.cfg) N aC5) (m+1) ⟨(J::J::t2::J::.ptr r 0 0 0::t5::v::.int .i64 j::J::J::J::J::J::J::J::J::J::J::J::J::J::J::J::J::J::J::J::J::J::J::J::J::J::J::J::J::J::J::J::J::J::J::J::J::J::J::J::J::J::J::J::J::J::J::J::J::J::J::J::J::J::J::J::J::J::J::J::J::J::J::J::J::J::J::J::J::J::J::J::J::J::J::J::J::J::J::J::J::J::J::J::J::J::J::J::J::J::J::J::J::J::J::J::J::J::J::J::J::J::J::J::J::J::J::J::J::J::J::J::J::J::J::J::J::J::J::J::J::J::J::J::J::J::J::J::[]),h⟩=aAp (aA7 (lim G0.cfg) N aC5) m ⟨(J::J::t2::J::.ptr r 0 0 0::t5::vv::.int .i64 (j+1:Nat)::J::J::J::J::J::J::J::J::J::J::J::J::J::J::J::J::J::J::J::J::J::J::J::J::J::J::J::J::J::J::J::J::J::J::J::J::J::J::J::J::J::J::J::J::J::J::J::J::J::J::J::J::J::J::J::J::J::J::J::J::J::J::J::J::J::J::J::J::J::J::J::J::J::J::J::J::J::J::J::J::J::J::J::J::J::J::J::J::J::J::J::J::J::J::J::J::J::J::J::J::J::J::J::J::J::J::J::J::J::J::J::J::J::J::J::J::J::J::J::J::J::J::J::J::J::J::J::[]),H2⟩:=by
     simp only [aAc,aEJ,Zae,Zaf,Zag,Zah,Zai,Zaj,Zak,Zan,Zao,Zar,Zat,Zav,Zax,Zay,Zbc,Zbd,Zbf,Zbk,Zbm,Zbn,Zbo,Zbp,Zbs,Zbu,Zbv,Zcc,Zcd,Zcm,Zcr,Zct,Zcu,Zcz,Zda,Zdb,Zdd,Zde,Zdf,Zdg,Zdh,Q2,Q3,Q0,Q1,Zdi,Zdl,Zdv,Zeb,decide_true,Q6,Nat.reduceAdd,eq_self,Q5,Q4,h3,aBD,k2,e1,y1,ev2,p1,p2,hw]
    rw [run]
    have eT:aBG (d+1) (l.drop a)=(aBG d rest2).map fun p=>(ys::p.1,p.2):=by simp only [aBG,eL,tk]
    rw [eT]
    have fF:∀ (k:Nat) (o:AObj),k < B→k≠r→h[k]?=some o→H2[k]?=some o:=fun k o hk hn e=>p4 k o (f4 k o (by omega) hn e) (fun e=>by have:=(hq k e).1;omega)
    cases lk:aBG d rest2 with
    | none =>
     refine ⟨fun ys rest e=>(by cases e),fun _ => ?_⟩
     obtain ⟨v',h',a',x1,x2,x3⟩:=z2 lk
     exact ⟨v',h',a',x1,x2,fun k o hk hn e=>x3 k o hk hn (fF k o hk hn e)⟩
    | some p =>
     obtain ⟨yss,rest⟩:=p
     refine ⟨fun ys' rest' e => ?_,fun e=>(by cases e)⟩
     cases e
     obtain ⟨v',cs',q',S2,h',a',x1,x2,x3,x4,x5,x6,x7,x8⟩:=z1 yss rest lk
     rw [List.append_assoc] at x6
     exact ⟨v',cs',q',S2,h',a',x1,x2,x3,x4,x5,x6,x7,fun k o hk hn e=>x8 k o hk hn (fF k o hk hn e)⟩
end
end Go.Proofs.Ytgeedikghjcebaa.Ai
