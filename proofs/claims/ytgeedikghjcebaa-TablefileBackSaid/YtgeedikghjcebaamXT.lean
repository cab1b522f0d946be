/- Take, the reference's; its Right. -/
import Derived.Test.YtgeedikghjcebaamXR
import Derived.Test.YtgeedikghjcebaamXS
import Derived.Test.YtgeedikghjcebaamXQ
namespace Go.Proofs.Ytgeedikghjcebaa.Ai
open Go Go.Proofs
open List renaming length_cons → Q0, length_nil → Q1
set_option linter.unusedVariables false
set_option linter.unusedSimpArgs false
set_option maxRecDepth 10000
set_option maxHeartbeats 4000000
section
variable {p : PackD} {cs : List AV}
theorem aUB (hp:aBi p cs) (kA:RtOk p.a) (kG:RtOk p.g) (hw:p.g.val.length≤1048576) :
  (aBq p→∀ H,lim G0.cfg (.func 16) [.agg cs] H=some (.bool true,H))∧(¬ aBq p→∀ H,lim G0.cfg (.func 16) [.agg cs] H=some (.bool false,H)):=by
 obtain ⟨k1,k2⟩:=aVw hp kA kG hw
 obtain ⟨p1,p2,p3⟩:=hp.cells
 obtain ⟨X,hX⟩:∃ X,X=AObj.arr 0 10 true [cs]:=⟨_,rfl⟩
 have lX:aAc [X] 10 true (.ptr 0 0 0 0)=some (.agg cs):=aB1 (b:=true) (by rw [hX];rfl) p3
 refine ⟨fun k H => ?_,fun k H => ?_⟩
 ·obtain ⟨av,gv,g1,g2,e⟩:=k1 k
  have d0:decide ((0:Int)=0)=true:=rfl
  have st:aAw [X,.arr 0 2 true [[.nilS,.nilS]]] 2 (.ptr 1 0 0 0) (.agg [av,gv])=some [X,.arr 0 2 true [[av,gv]]]:=aB4 (h:=[X,.arr 0 2 true [[.nilS,.nilS]]]) (i:=1) (b:=true) (z:=[.nilS,.nilS]) rfl rfl rfl (by simp [cellsOf]) (by simp only [List.all_cons,List.all_nil,g1.cell.2,g2.cell.2,Bool.and_self])
  refine aAF rfl rfl aLR 1 (fun h=>aCG (hp.fz h 998)) ?_ (fun _=>rfl) H
  rw [aLN]
  simp only [Zaf,Zag,Zam,Zan,Zao,Zbc,Zbd,Zbe,Zbm,Zbo,Zbq,Zbr,Zbs,Zbt,Zbu,Zcj,Zct,Zcu,Zcw,Zcy,Zcz,Zda,Zdb,Zdc,Zdd,Zde,List.set_cons_zero,List.set_cons_succ,List.getD_cons_zero,List.getD_cons_succ,Option.map_some,Zdp,Zeq,decide_true,List.getElem?_cons_zero,List.getElem?_cons_succ,Q0,Q1,if_true,Nat.reduceAdd,Nat.reduceSub,eq_self,true_and,Q0,Q1,List.replicate_succ,List.replicate_zero,List.cons_append,List.nil_append,p1,p3,eq_self,if_true,← hX,lX,e,st,aA5,aA4,aA8,Option.some.injEq,Prod.mk.injEq,true_and,exists_eq']
 ·have e:=k2 k
  have d0:decide ((34:Int)=0)=false:=rfl
  have st:aAw [X,.arr 0 2 true [[.nilS,.nilS]]] 2 (.ptr 1 0 0 0) (.agg [.nilS,.nilS])=some [X,.arr 0 2 true [[.nilS,.nilS]]]:=aB4 (h:=[X,.arr 0 2 true [[.nilS,.nilS]]]) (i:=1) (b:=true) (z:=[.nilS,.nilS]) rfl rfl rfl rfl rfl
  refine aAF rfl rfl aLR 1 (fun h=>aCG (hp.fz h 998)) ?_ (fun _=>rfl) H
  rw [aLN]
  simp only [Zaf,Zag,Zam,Zan,Zao,Zbc,Zbd,Zbe,Zbm,Zbo,Zbq,Zbr,Zbs,Zbt,Zbu,Zcj,Zct,Zcu,Zcw,Zcy,Zcz,Zda,Zdb,Zdc,Zdd,Zde,List.set_cons_zero,List.set_cons_succ,List.getD_cons_zero,List.getD_cons_succ,Option.map_some,Zdp,Zeq,decide_false,List.getElem?_cons_zero,List.getElem?_cons_succ,Q0,Q1,if_true,Nat.reduceAdd,Nat.reduceSub,Int.reduceEq,eq_self,true_and,Q0,Q1,List.replicate_succ,List.replicate_zero,List.cons_append,List.nil_append,p1,p3,eq_self,if_true,← hX,lX,e,st,aA5,aA4,aA8,Option.some.injEq,Prod.mk.injEq,true_and,exists_eq']
end
open Classical in
noncomputable def aFF (b:List UInt8):PackD × Int :=
 if b.length < 8∨b.take 4≠aBY then (aCC,3) else
 if b.drop (b.length - 4)≠aDw (b.take (b.length - 4)) then (aCC,33) else
 match aDx ((b.take (b.length - 4)).drop 4) with
 | none=>(aCC,3)
 | some (t,l1) =>
  match aDx l1 with
  | none=>(aCC,3)
  | some (n,l2) =>
   match aCM 8 l2 with
   | none=>(aCC,3)
   | some (ls,rest) =>
    if rest≠[] then (aCC,3) else
    if aBq (mkP t n ls) then (mkP t n ls,0) else (aCC,34)
theorem aKj:∀ (k:Nat) (l:List UInt8) {ys:List Int} {rest:List UInt8},aCR k l=some (ys,rest)→ys.length=k∧rest.length+k≤l.length∧∀ x ∈ ys,aL4 x
 | 0,l,ys,rest,h=>by cases h;exact ⟨rfl,Nat.le_refl _,fun x hx=>by simp at hx⟩
 | k+1,l,ys,rest,h=>by
  simp only [aCR] at h
  cases nn:aDx l with
  | none=>rw [nn] at h;cases h
  | some p =>
   obtain ⟨x,r⟩:=p
   rw [nn] at h
   simp only at h
   cases tk:aCR k r with
   | none=>rw [tk] at h;cases h
   | some p =>
    obtain ⟨zs,r2⟩:=p
    rw [tk] at h
    simp only [Option.map_some,Option.some.injEq,Prod.mk.injEq] at h
    obtain ⟨rfl,rfl⟩:=h
    obtain ⟨h1,h2,h3⟩:=aKj k r tk
    have hx:=aQz nn
    refine ⟨by simp [h1],by omega,fun y hy => ?_⟩
    rcases List.mem_cons.1 hy with rfl | hy
    ·exact ⟨by omega,by omega⟩
    ·exact h3 y hy
end Go.Proofs.Ytgeedikghjcebaa.Ai
namespace Go.Proofs.Ytgeedikghjcebaa.Ai
open Go Go.Proofs
open List renaming append_assoc → Q0
open Int renaming toNat_of_nonneg → Q1
set_option linter.unusedVariables false
set_option linter.unusedSimpArgs false
set_option maxRecDepth 10000
set_option maxHeartbeats 4000000
theorem aTs (l:List UInt8):(aAG (l,true)).2.2=true:=by
 unfold aAG
 split <;> simp
theorem aKv (s:List UInt8 × Bool) (h:s.2=true):(aAG s).2.2=true:=by
 obtain ⟨l,b⟩:=s
 simp only at h
 subst h
 exact aTs l
theorem aIG:∀ (k:Nat) (s:List UInt8 × Bool),s.2=true→(aCS k s).2.2=true
 | 0,s,h=>h
 | k+1,s,h=>aIG k _ (aKv s h)
theorem aSi (s:List UInt8 × Bool) (h:s.2=true):(aDN s).2.2=true:=aIG _ _ (aKv s h)
theorem aHS:∀ (k:Nat) (s:List UInt8 × Bool),s.2=true→(aBU k s).2.2=true
 | 0,s,h=>h
 | k+1,s,h=>aHS k _ (aSi s h)
theorem aMG (l:List UInt8):(∀ x r,aDx l=some (x,r)→aAG (l,false)=(x,(r,false)))∧(aDx l=none→(aAG (l,false)).2.2=true):=by
 unfold aDx aAG
 simp only
 cases c:rdG 0 0 l with
 | none=>exact ⟨fun x r e=>(by cases e),fun _=>rfl⟩
 | some p =>
  obtain ⟨x,z,r⟩:=p
  cases z with
  | false=>exact ⟨fun x' r' e=>(by cases e;rfl),fun e=>(by cases e)⟩
  | true=>exact ⟨fun x' r' e=>(by cases e),fun _=>rfl⟩
theorem aKZ:∀ (k:Nat) (l:List UInt8),(∀ ys r,aCR k l=some (ys,r)→aCS k (l,false)=(ys,(r,false)))∧(aCR k l=none→(aCS k (l,false)).2.2=true)
 | 0,l=>⟨fun ys r e=>(by cases e;rfl),fun e=>(by cases e)⟩
 | k+1,l=>by
  obtain ⟨n1,n2⟩:=aMG l
  cases c:aDx l with
  | none =>
   have e:aCR (k+1) l=none:=by simp only [aCR,c]
   rw [e]
   exact ⟨fun ys r e=>(by cases e),fun _=>aIG k _ (n2 c)⟩
  | some p =>
   obtain ⟨x,r1⟩:=p
   have e1:=n1 x r1 c
   obtain ⟨h1,h2⟩:=aKZ k r1
   have e:aCR (k+1) l=(aCR k r1).map fun p=>((x:Int)::p.1,p.2):=by simp only [aCR,c]
   have e2:aCS (k+1) (l,false)=((x:Int)::(aCS k (r1,false)).1,(aCS k (r1,false)).2):=by simp only [aCS,e1]
   rw [e,e2]
   cases c2:aCR k r1 with
   | none=>exact ⟨fun ys r e=>(by cases e),fun _=>h2 c2⟩
   | some q =>
    obtain ⟨zs,r2⟩:=q
    rw [h1 zs r2 c2]
    exact ⟨fun ys r e=>(by cases e;rfl),fun e=>(by cases e)⟩
theorem aUO (l:List UInt8):(∀ ys r,aGR l=some (ys,r)→aDN (l,false)=(ys,(r,false)))∧(aGR l=none→(aDN (l,false)).2.2=true):=by
 obtain ⟨n1,n2⟩:=aMG l
 unfold aGR aDN
 cases c:aDx l with
 | none=>exact ⟨fun ys r e=>(by cases e),fun _=>aIG _ _ (n2 c)⟩
 | some p =>
  obtain ⟨n,r1⟩:=p
  rw [n1 n r1 c]
  simp only
  cases c2:aCR n r1 with
  | some q =>
   obtain ⟨zs,r2⟩:=q
   have hr:=aKj n r1 c2
   have hm:min n (r1.length+1)=n:=by omega
   rw [hm,(aKZ n r1).1 zs r2 c2]
   exact ⟨fun ys r e=>(by cases e;rfl),fun e=>(by cases e)⟩
  | none =>
   refine ⟨fun ys r e=>(by cases e),fun _ => ?_⟩
   by_cases hm:n≤r1.length+1
   ·rw [Nat.min_eq_left hm]
    exact (aKZ n r1).2 c2
   ·rw [Nat.min_eq_right (by omega)]
    refine (aKZ (r1.length+1) r1).2 ?_
    cases c3:aCR (r1.length+1) r1 with
    | none=>rfl
    | some q =>
     obtain ⟨zs,r2⟩:=q
     have:=aKj _ r1 c3
     omega
theorem aOZ:∀ (k:Nat) (l:List UInt8),(∀ ys r,aCM k l=some (ys,r)→aBU k (l,false)=(ys,(r,false)))∧(aCM k l=none→(aBU k (l,false)).2.2=true)
 | 0,l=>⟨fun ys r e=>(by cases e;rfl),fun e=>(by cases e)⟩
 | k+1,l=>by
  obtain ⟨n1,n2⟩:=aUO l
  cases c:aGR l with
  | none =>
   have e:aCM (k+1) l=none:=by simp only [aCM,c]
   rw [e]
   exact ⟨fun ys r e=>(by cases e),fun _=>aHS k _ (n2 c)⟩
  | some p =>
   obtain ⟨x,r1⟩:=p
   have e1:=n1 x r1 c
   obtain ⟨h1,h2⟩:=aOZ k r1
   have e:aCM (k+1) l=(aCM k r1).map fun p=>(x::p.1,p.2):=by simp only [aCM,c]
   have e2:aBU (k+1) (l,false)=(x::(aBU k (r1,false)).1,(aBU k (r1,false)).2):=by simp only [aBU,e1]
   rw [e,e2]
   cases c2:aCM k r1 with
   | none=>exact ⟨fun ys r e=>(by cases e),fun _=>h2 c2⟩
   | some q =>
    obtain ⟨zs,r2⟩:=q
    rw [h1 zs r2 c2]
    exact ⟨fun ys r e=>(by cases e;rfl),fun e=>(by cases e)⟩
theorem aKY (b:List UInt8):aCh b=aFF b:=by
 unfold aCh aFF
 by_cases c1:b.length < 8∨b.take 4≠aBY
 ·rw [if_pos c1,if_pos c1]
 rw [if_neg c1,if_neg c1]
 by_cases c2:b.drop (b.length - 4)≠aDw (b.take (b.length - 4))
 ·rw [if_pos c2,if_pos c2]
 rw [if_neg c2,if_neg c2]
 generalize (b.take (b.length - 4)).drop 4=L
 obtain ⟨n1,n2⟩:=aMG L
 cases r1:aDx L with
 | none =>
  simp only
  rw [if_pos (.inl (aHS 8 _ (aKv _ (n2 r1))))]
 | some p =>
  obtain ⟨t,L1⟩:=p
  rw [n1 t L1 r1]
  simp only
  obtain ⟨m1,m2⟩:=aMG L1
  cases r2:aDx L1 with
  | none =>
   simp only
   rw [if_pos (.inl (aHS 8 _ (m2 r2)))]
  | some p =>
   obtain ⟨n,L2⟩:=p
   rw [m1 n L2 r2]
   simp only
   obtain ⟨l1,l2⟩:=aOZ 8 L2
   cases r3:aCM 8 L2 with
   | none =>
    simp only
    rw [if_pos (.inl (l2 r3))]
   | some p =>
    obtain ⟨ls,rest⟩:=p
    rw [l1 ls rest r3]
    simp only [Bool.false_eq_true,false_or]
theorem aQu:∀ (k i n m:Nat) (rest:List UInt8),i+k=4→m*128 ^ i < 2147483648→(i=0∨0 < m)→rdG i n (enc k m++rest)=some (n+m*128 ^ i,false,rest)
 | 0,i,n,m,rest,h1,h2,h3=>by
  have hi:i=4:=by omega
  subst hi
  rw [aWG] at h2
  have hm:m < 8:=by omega
  have e:(UInt8.ofNat m).toNat=m:=by rw [UInt8.toNat_ofNat'];omega
  have e2:enc 0 m++rest=UInt8.ofNat m::rest:=rfl
  rw [e2,rdG,e,if_neg (by omega),if_pos (by omega)]
  have z:(decide (m=0) && decide (0 < 4))=false:=by simp;omega
  rw [z,Nat.mod_eq_of_lt (by omega)]
 | k+1,i,n,m,rest,h1,h2,h3=>by
  unfold enc
  by_cases c:127 < m
  ·rw [if_pos c]
   have e:(UInt8.ofNat (m % 128+128)).toNat=m % 128+128:=by rw [UInt8.toNat_ofNat'];omega
   rw [List.cons_append,rdG,e,if_neg (by omega),if_neg (by omega)]
   have em:(m % 128+128) % 128=m % 128:=by omega
   have ep:(128:Nat) ^ (i+1)=128*128 ^ i:=by rw [Nat.pow_succ,Nat.mul_comm]
   have hq:m / 128*128 ^ (i+1)+m % 128*128 ^ i=m*128 ^ i:=by
    rw [ep,← Nat.mul_assoc,← Nat.add_mul,Nat.mul_comm (m / 128) 128,Nat.div_add_mod]
   rw [em,aQu k (i+1) _ (m / 128) rest (by omega) (by omega) (.inr (by omega)),Nat.add_assoc,Nat.add_comm (m % 128*128 ^ i),hq]
  ·rw [if_neg c]
   have e:(UInt8.ofNat m).toNat=m:=by rw [UInt8.toNat_ofNat'];omega
   have e2:[UInt8.ofNat m]++rest=UInt8.ofNat m::rest:=rfl
   rw [e2,rdG,e,if_neg (by omega),if_pos (by omega)]
   have z:(decide (m=0) && decide (0 < i))=false:=by
    simp only [Bool.and_eq_false_iff,decide_eq_false_iff_not]
    omega
   rw [z,Nat.mod_eq_of_lt (by omega)]
theorem aJC (m:Nat) (hm:m < 2147483648) (rest:List UInt8):aDx (aE2 m++rest)=some (m,rest):=by
 unfold aDx aE2
 rw [aQu 4 0 0 m rest rfl (by simpa using hm) (.inl rfl)]
 simp
theorem aWh {a:Nat} {c:UInt8} (h:a=c.toNat):UInt8.ofNat a=c:=by rw [h];simp
theorem aQv:∀ (k i n:Nat) (l:List UInt8) {x:Nat} {r:List UInt8},i+k=4→rdG i n l=some (x,false,r)→∃ m,x=n+m*128 ^ i∧l=enc k m++r∧(0 < i→0 < m)
 | k,i,n,[],x,r,h1,h=>by cases h
 | k,i,n,c::l,x,r,h1,h=>by
  have hc:c.toNat < 256:=UInt8.toNat_lt c
  rw [rdG] at h
  by_cases c1:4 < i∨(i=4∧7 < c.toNat)
  ·rw [if_pos c1] at h;cases h
  rw [if_neg c1] at h
  by_cases c2:c.toNat < 128
  ·rw [if_pos c2] at h
   simp only [Option.some.injEq,Prod.mk.injEq,Bool.and_eq_false_iff,decide_eq_false_iff_not] at h
   obtain ⟨rfl,hz,rfl⟩:=h
   refine ⟨c.toNat,by rw [Nat.mod_eq_of_lt c2],?_,fun hi=>by omega⟩
   have e:enc k c.toNat=[c]:=by
    cases k with
    | zero=>simp [enc]
    | succ k=>unfold enc;rw [if_neg (by omega)];simp
   rw [e];rfl
  ·rw [if_neg c2] at h
   have hi:i≠4:=fun e=>c1 (.inr ⟨e,by omega⟩)
   obtain ⟨k,rfl⟩:∃ j,k=j+1:=⟨k - 1,by omega⟩
   obtain ⟨m,e1,e2,e3⟩:=aQv k (i+1) _ l (by omega) h
   have hm:=e3 (by omega)
   refine ⟨c.toNat % 128+128*m,?_,?_,fun _=>by omega⟩
   ·rw [e1,Nat.pow_succ,Nat.add_assoc,Nat.add_mul]
    congr 2
    rw [Nat.mul_comm (128 ^ i) 128,← Nat.mul_assoc,Nat.mul_comm m 128]
   ·unfold enc
    rw [if_pos (by omega)]
    have a1:(c.toNat % 128+128*m) % 128+128=c.toNat:=by omega
    have a2:(c.toNat % 128+128*m) / 128=m:=by omega
    rw [a2,aWh a1,e2];rfl
theorem aJD {l r:List UInt8} {x:Nat} (h:aDx l=some (x,r)):l=aE2 x++r:=by
 unfold aDx at h
 split at h
 ·rename_i a b c
  cases h
  obtain ⟨m,e1,e2,_⟩:=aQv 4 0 0 l rfl c
  rw [Nat.pow_zero,Nat.mul_one,Nat.zero_add] at e1
  rw [e2,e1];rfl
 ·cases h
theorem aO2:∀ (xs:List Int) (rest:List UInt8),(∀ x ∈ xs,inR x=true)→aCR xs.length (aBx xs++rest)=some (xs,rest)
 | [],rest,_=>rfl
 | x::xs,rest,h=>by
  have hx:=(aGu x).1 (h x (List.mem_cons_self ..))
  have e:aBx (x::xs)++rest=aE2 x.toNat++(aBx xs++rest):=by
   have:aBx (x::xs)=aE2 x.toNat++aBx xs:=rfl
   rw [this,Q0]
  rw [e]
  simp only [List.length_cons,aCR]
  rw [aJC x.toNat (by omega)]
  simp only
  rw [aO2 xs rest (fun y hy=>h y (List.mem_cons_of_mem _ hy))]
  simp only [Option.map_some]
  rw [Q1 hx.1]
theorem aSg (xs:List Int) (rest:List UInt8) (hl:xs.length < 2147483648) (h:xs.all inR=true):aGR (aEF xs++rest)=some (xs,rest):=by
 unfold aGR aEF
 rw [Q0,aJC _ hl]
 exact aO2 xs rest (List.all_eq_true.1 h)
theorem aML:∀ (ls:List (List Int)) (rest:List UInt8),(∀ l ∈ ls,l.length < 2147483648∧l.all inR=true)→aCM ls.length (ls.flatMap aEF++rest)=some (ls,rest)
 | [],rest,_=>rfl
 | l::ls,rest,h=>by
  obtain ⟨h1,h2⟩:=h l (List.mem_cons_self ..)
  rw [List.flatMap_cons,Q0]
  simp only [List.length_cons,aCM]
  rw [aSg l _ h1 h2]
  simp only
  rw [aML ls rest (fun y hy=>h y (List.mem_cons_of_mem _ hy))]
  rfl
theorem aO3:∀ (k:Nat) (l:List UInt8) {ys:List Int} {r:List UInt8},aCR k l=some (ys,r)→l=aBx ys++r∧ys.length=k∧ys.all inR=true
 | 0,l,ys,r,h=>by cases h;exact ⟨rfl,rfl,rfl⟩
 | k+1,l,ys,r,h=>by
  simp only [aCR] at h
  cases nn:aDx l with
  | none=>rw [nn] at h;cases h
  | some p =>
   obtain ⟨x,r1⟩:=p
   rw [nn] at h
   simp only at h
   cases tk:aCR k r1 with
   | none=>rw [tk] at h;cases h
   | some p =>
    obtain ⟨zs,r2⟩:=p
    rw [tk] at h
    simp only [Option.map_some,Option.some.injEq,Prod.mk.injEq] at h
    obtain ⟨rfl,rfl⟩:=h
    obtain ⟨h1,h2,h3⟩:=aO3 k r1 tk
    have hx:=aQz nn
    refine ⟨?_,by simp [h2],?_⟩
    ·have e:aBx ((x:Int)::zs)=aE2 x++aBx zs:=rfl
     rw [aJD nn,h1,e,Q0]
    ·rw [List.all_cons,h3,(aGu _).2 ⟨by omega,by omega⟩];rfl
theorem aSh {l r:List UInt8} {ys:List Int} (h:aGR l=some (ys,r)):l=aEF ys++r∧ys.all inR=true:=by
 unfold aGR at h
 cases nn:aDx l with
 | none=>rw [nn] at h;cases h
 | some p =>
  obtain ⟨n,r1⟩:=p
  rw [nn] at h
  obtain ⟨h1,h2,h3⟩:=aO3 n r1 h
  refine ⟨?_,h3⟩
  unfold aEF
  rw [aJD nn,h1,h2,Q0]
theorem aMM:∀ (k:Nat) (l:List UInt8) {ys:List (List Int)} {r:List UInt8},aCM k l=some (ys,r)→l=ys.flatMap aEF++r∧ys.length=k∧ys.all (fun l=>l.all inR)=true
 | 0,l,ys,r,h=>by cases h;exact ⟨rfl,rfl,rfl⟩
 | k+1,l,ys,r,h=>by
  simp only [aCM] at h
  cases nn:aGR l with
  | none=>rw [nn] at h;cases h
  | some p =>
   obtain ⟨x,r1⟩:=p
   rw [nn] at h
   simp only at h
   cases tk:aCM k r1 with
   | none=>rw [tk] at h;cases h
   | some p =>
    obtain ⟨zs,r2⟩:=p
    rw [tk] at h
    simp only [Option.map_some,Option.some.injEq,Prod.mk.injEq] at h
    obtain ⟨rfl,rfl⟩:=h
    obtain ⟨h1,h2,h3⟩:=aMM k r1 tk
    obtain ⟨g1,g2⟩:=aSh nn
    refine ⟨?_,by simp [h2],?_⟩
    ·rw [g1,h1,List.flatMap_cons,Q0]
    ·rw [List.all_cons,h3,g2];rfl
theorem aSd (p:PackD):mkP p.tms p.nts p.lists=p:=by
 obtain ⟨a,b,⟨c1,c2,c3,c4⟩,⟨d1,d2,d3,d4⟩⟩:=p
 rfl
theorem aOg (t n:Int):∀ ls:List (List Int),ls.length=8→(mkP t n ls).lists=ls:=by
 intro ls h
 obtain ⟨a0,w0,e0,h0⟩:=aCo h
 subst e0
 obtain ⟨a1,w1,e1,h1⟩:=aCo h0
 subst e1
 obtain ⟨a2,w2,e2,h2⟩:=aCo h1
 subst e2
 obtain ⟨a3,w3,e3,h3⟩:=aCo h2
 subst e3
 obtain ⟨a4,w4,e4,h4⟩:=aCo h3
 subst e4
 obtain ⟨a5,w5,e5,h5⟩:=aCo h4
 subst e5
 obtain ⟨a6,w6,e6,h6⟩:=aCo h5
 subst e6
 obtain ⟨a7,w7,e7,h7⟩:=aCo h6
 subst e7
 have e8:w7=[]:=List.length_eq_zero_iff.1 h7
 subst e8
 rfl
theorem aSz (k n:Nat):1≤(enc k n).length:=by
 cases k with
 | zero=>simp [enc]
 | succ k =>
  unfold enc
  split <;> simp
theorem aPk (p:PackD):6≤(aDy p).length:=by
 have h1:=aSz 4 p.tms.toNat
 have h2:=aSz 4 p.nts.toNat
 have lm:aBY.length=4:=rfl
 unfold aDy aE2
 simp only [List.length_append]
 omega
theorem aRm (p:PackD):(aDf p).length=(aDy p).length+4∧(aDf p).take ((aDf p).length - 4)=aDy p∧(aDf p).drop ((aDf p).length - 4)=aDw (aDy p)∧(aDf p).take 4=aBY∧(aDy p).drop 4=aE2 p.tms.toNat++(aE2 p.nts.toNat++p.lists.flatMap aEF):=by
 have hl:(aDf p).length=(aDy p).length+4:=by unfold aDf;rw [List.length_append];rfl
 have hb:=aPk p
 have lm:aBY.length=4:=rfl
 have e:(aDf p).length - 4=(aDy p).length:=by omega
 have eb:aDy p=aBY++(aE2 p.tms.toNat++(aE2 p.nts.toNat++p.lists.flatMap aEF)):=by unfold aDy;simp only [Q0]
 refine ⟨hl,?_,?_,?_,?_⟩
 ·rw [e];unfold aDf;exact List.take_left ..
 ·rw [e];unfold aDf;exact List.drop_left ..
 ·unfold aDf
  rw [List.take_append_of_le_length (by omega),eb]
  exact List.take_left (l₁:=aBY) ..
 ·rw [eb];exact List.drop_left (l₁:=aBY) ..
theorem aT4 (p:PackD) (hk:aBq p) (ha:aKM p=true) (hl:∀ l ∈ p.lists,l.length < 2147483648):aFF (aDf p)=(p,0):=by
 obtain ⟨e1,e2,e3,e4,e5⟩:=aRm p
 have hb:=aPk p
 obtain ⟨f1,f2,f3,f4,_⟩:=hk.1
 unfold aFF
 rw [if_neg (fun h=>h.elim (fun h=>by omega) (fun h=>h e4)),e2,e3,if_neg (fun h=>h rfl),e5,aJC _ (by omega)]
 simp only
 rw [aJC _ (by omega)]
 simp only
 have l8:p.lists.length=8:=rfl
 have:=aML p.lists [] (fun l h=>⟨hl l h,List.all_eq_true.1 ha l h⟩)
 rw [List.append_nil,l8] at this
 rw [this]
 simp only
 rw [if_neg (fun h=>h rfl),Q1 (by omega),Q1 (by omega),aSd,if_pos hk]
theorem aOL {b:List UInt8} (h:(aFF b).2=0):b=aDf (aFF b).1∧aBq (aFF b).1∧aKM (aFF b).1=true:=by
 unfold aFF at h ⊢
 by_cases c1:b.length < 8∨b.take 4≠aBY
 ·rw [if_pos c1] at h;cases h
 rw [if_neg c1] at h ⊢
 by_cases c2:b.drop (b.length - 4)≠aDw (b.take (b.length - 4))
 ·rw [if_pos c2] at h;cases h
 rw [if_neg c2] at h ⊢
 have c2':b.drop (b.length - 4)=aDw (b.take (b.length - 4)):=Classical.byContradiction c2
 have c1a:8≤b.length:=by
  rcases Nat.lt_or_ge b.length 8 with k | k
  ·exact absurd (.inl k) c1
  ·exact k
 have c1b:b.take 4=aBY:=Classical.byContradiction fun k=>c1 (.inr k)
 have hb4:(b.take (b.length - 4))=aBY++(b.take (b.length - 4)).drop 4:=by
  have e:(b.take (b.length - 4)).take 4=aBY:=by rw [List.take_take,Nat.min_eq_left (by omega),c1b]
  rw [← e,List.take_append_drop]
 generalize hL:(b.take (b.length - 4)).drop 4=L at h hb4 ⊢
 cases r1:aDx L with
 | none=>rw [r1] at h;cases h
 | some q =>
 obtain ⟨t,L1⟩:=q
 rw [r1] at h
 simp only at h ⊢
 cases r2:aDx L1 with
 | none=>rw [r2] at h;cases h
 | some q =>
 obtain ⟨n,L2⟩:=q
 rw [r2] at h
 simp only at h ⊢
 cases r3:aCM 8 L2 with
 | none=>rw [r3] at h;cases h
 | some q =>
 obtain ⟨ls,rest⟩:=q
 rw [r3] at h
 simp only at h ⊢
 by_cases c3:rest≠[]
 ·rw [if_pos c3] at h;cases h
 rw [if_neg c3] at h ⊢
 have c3':rest=[]:=Classical.byContradiction c3
 by_cases c4:aBq (mkP t n ls)
 case neg=>rw [if_neg c4] at h;cases h
 rw [if_pos c4]
 obtain ⟨g1,g2,g3⟩:=aMM 8 L2 r3
 have lp:=aOg t n ls g2
 have eb:aDy (mkP t n ls)=b.take (b.length - 4):=by
  have et:(mkP t n ls).tms.toNat=t:=Int.toNat_natCast t
  have en:(mkP t n ls).nts.toNat=n:=Int.toNat_natCast n
  unfold aDy
  rw [lp,et,en,hb4,aJD r1,aJD r2,g1,c3',List.append_nil,Q0,Q0]
 refine ⟨?_,c4,?_⟩
 ·unfold aDf
  rw [eb,← c2',List.take_append_drop]
 ·unfold aKM
  rw [lp];exact g3
end Go.Proofs.Ytgeedikghjcebaa.Ai
