/- Take, the reference's; its Right. -/
import Derived.Test.YtgeedikghjcebaamXR
import Derived.Test.YtgeedikghjcebaamXS
import Derived.Test.YtgeedikghjcebaamXQ
namespace Go.Proofs.Ytgeedikghjcebaa.Ai
open Go Go.Proofs
set_option linter.unusedVariables false
set_option linter.unusedSimpArgs false
set_option maxRecDepth 10000
set_option maxHeartbeats 4000000
section
variable {p : PackD} {cs : List AV}
end
open Classical in
noncomputable def aKZ (b:List UInt8):PackD × Int :=
 if b.length < 8∨b.take 4≠aC3 then (aDx,3) else
 if b.drop (b.length - 4)≠aCK (b.take (b.length - 4)) then (aDx,33) else
 match aEL ((b.take (b.length - 4)).drop 4) with
 | none=>(aDx,3)
 | some (t,l1) =>
  match aEL l1 with
  | none=>(aDx,3)
  | some (n,l2) =>
   match aE5 8 l2 with
   | none=>(aDx,3)
   | some (ls,rest) =>
    if rest≠[] then (aDx,3) else
    if aCa (mkP t n ls) then (mkP t n ls,0) else (aDx,34)
theorem aIX:∀ (k:Nat) (l:List UInt8) {ys:List Int} {rest:List UInt8},aDs k l=some (ys,rest)→ys.length=k∧rest.length+k≤l.length∧∀ x ∈ ys,aJB x
 | 0,l,ys,rest,h=>by cases h;exact ⟨rfl,Nat.le_refl _,fun x hx=>by simp at hx⟩
 | k+1,l,ys,rest,h=>by
  simp only [aDs] at h
  cases nn:aEL l with
  | none=>rw [nn] at h;cases h
  | some p =>
   obtain ⟨x,r⟩:=p
   rw [nn] at h
   simp only at h
   cases tk:aDs k r with
   | none=>rw [tk] at h;cases h
   | some p =>
    obtain ⟨zs,r2⟩:=p
    rw [tk] at h
    simp only [Option.map_some,Option.some.injEq,Prod.mk.injEq] at h
    obtain ⟨rfl,rfl⟩:=h
    obtain ⟨h1,h2,h3⟩:=aIX k r tk
    have hx:=aS5 nn
    refine ⟨by simp [h1],by omega,fun y hy => ?_⟩
    rcases List.mem_cons.1 hy with rfl | hy
    ·exact ⟨by omega,by omega⟩
    ·exact h3 y hy
theorem aTS (h:aA0):aBH h false 1 0 [.int .u8 0] []=some (.vsl true [],h):=rfl
theorem aU1 (h:aA0) {l:List UInt8} {v:AV} (hl:LiB l v) (hn:l≠[]) (hm:l.length≤100000000):aD9 h 1 1 (.vsl true []) v=some (.hsl h.length 0 0 l.length none,h++[.arr 0 1 false (eBs l)]):=by
 unfold aD9
 rw [hl.elems h]
 have hz:¬ (eBs l).length=0:=by rw [aBj];intro e;exact hn (List.length_eq_zero_iff.1 e)
 simp only [Option.elim_some,aCP]
 rw [if_neg hz]
 have hc:(eBs l).length*(1+1)≤68719476736∧(eBs l).all (fun c=>c.length==1 && c.all aAp)=true:=⟨by rw [aBj];omega,aOS _⟩
 simp only [aCS,aC8,List.nil_append]
 rw [if_pos hc,aBj]
end Go.Proofs.Ytgeedikghjcebaa.Ai
namespace Go.Proofs.Ytgeedikghjcebaa.Ai
open Go Go.Proofs
set_option linter.unusedVariables false
set_option linter.unusedSimpArgs false
set_option maxRecDepth 10000
set_option maxHeartbeats 4000000
theorem aR6 (l:List UInt8):(aAD (l,true)).2.2=true:=by
 unfold aAD
 split <;> simp
theorem aJ7 (s:List UInt8 × Bool) (h:s.2=true):(aAD s).2.2=true:=by
 obtain ⟨l,b⟩:=s
 simp only at h
 subst h
 exact aR6 l
theorem aHi:∀ (k:Nat) (s:List UInt8 × Bool),s.2=true→(aCx k s).2.2=true
 | 0,s,h=>h
 | k+1,s,h=>aHi k _ (aJ7 s h)
theorem aQ5 (s:List UInt8 × Bool) (h:s.2=true):(aDa s).2.2=true:=aHi _ _ (aJ7 s h)
theorem aGD:∀ (k:Nat) (s:List UInt8 × Bool),s.2=true→(aBG k s).2.2=true
 | 0,s,h=>h
 | k+1,s,h=>aGD k _ (aQ5 s h)
theorem aL5 (l:List UInt8):(∀ x r,aEL l=some (x,r)→aAD (l,false)=(x,(r,false)))∧(aEL l=none→(aAD (l,false)).2.2=true):=by
 unfold aEL aAD
 simp only
 cases c:rdG 0 0 l with
 | none=>exact ⟨fun x r e=>(by cases e),fun _=>rfl⟩
 | some p =>
  obtain ⟨x,z,r⟩:=p
  cases z with
  | false=>exact ⟨fun x' r' e=>(by cases e;rfl),fun e=>(by cases e)⟩
  | true=>exact ⟨fun x' r' e=>(by cases e),fun _=>rfl⟩
theorem aJx:∀ (k:Nat) (l:List UInt8),(∀ ys r,aDs k l=some (ys,r)→aCx k (l,false)=(ys,(r,false)))∧(aDs k l=none→(aCx k (l,false)).2.2=true)
 | 0,l=>⟨fun ys r e=>(by cases e;rfl),fun e=>(by cases e)⟩
 | k+1,l=>by
  obtain ⟨n1,n2⟩:=aL5 l
  cases c:aEL l with
  | none =>
   have e:aDs (k+1) l=none:=by simp only [aDs,c]
   rw [e]
   exact ⟨fun ys r e=>(by cases e),fun _=>aHi k _ (n2 c)⟩
  | some p =>
   obtain ⟨x,r1⟩:=p
   have e1:=n1 x r1 c
   obtain ⟨h1,h2⟩:=aJx k r1
   have e:aDs (k+1) l=(aDs k r1).map fun p=>((x:Int)::p.1,p.2):=by simp only [aDs,c]
   have e2:aCx (k+1) (l,false)=((x:Int)::(aCx k (r1,false)).1,(aCx k (r1,false)).2):=by simp only [aCx,e1]
   rw [e,e2]
   cases c2:aDs k r1 with
   | none=>exact ⟨fun ys r e=>(by cases e),fun _=>h2 c2⟩
   | some q =>
    obtain ⟨zs,r2⟩:=q
    rw [h1 zs r2 c2]
    exact ⟨fun ys r e=>(by cases e;rfl),fun e=>(by cases e)⟩
theorem aS8 (l:List UInt8):(∀ ys r,aLa l=some (ys,r)→aDa (l,false)=(ys,(r,false)))∧(aLa l=none→(aDa (l,false)).2.2=true):=by
 obtain ⟨n1,n2⟩:=aL5 l
 unfold aLa aDa
 cases c:aEL l with
 | none=>exact ⟨fun ys r e=>(by cases e),fun _=>aHi _ _ (n2 c)⟩
 | some p =>
  obtain ⟨n,r1⟩:=p
  rw [n1 n r1 c]
  simp only
  cases c2:aDs n r1 with
  | some q =>
   obtain ⟨zs,r2⟩:=q
   have hr:=aIX n r1 c2
   have hm:min n (r1.length+1)=n:=by omega
   rw [hm,(aJx n r1).1 zs r2 c2]
   exact ⟨fun ys r e=>(by cases e;rfl),fun e=>(by cases e)⟩
  | none =>
   refine ⟨fun ys r e=>(by cases e),fun _ => ?_⟩
   by_cases hm:n≤r1.length+1
   ·rw [Nat.min_eq_left hm]
    exact (aJx n r1).2 c2
   ·rw [Nat.min_eq_right (by omega)]
    refine (aJx (r1.length+1) r1).2 ?_
    cases c3:aDs (r1.length+1) r1 with
    | none=>rfl
    | some q =>
     obtain ⟨zs,r2⟩:=q
     have:=aIX _ r1 c3
     omega
theorem aNh:∀ (k:Nat) (l:List UInt8),(∀ ys r,aE5 k l=some (ys,r)→aBG k (l,false)=(ys,(r,false)))∧(aE5 k l=none→(aBG k (l,false)).2.2=true)
 | 0,l=>⟨fun ys r e=>(by cases e;rfl),fun e=>(by cases e)⟩
 | k+1,l=>by
  obtain ⟨n1,n2⟩:=aS8 l
  cases c:aLa l with
  | none =>
   have e:aE5 (k+1) l=none:=by simp only [aE5,c]
   rw [e]
   exact ⟨fun ys r e=>(by cases e),fun _=>aGD k _ (n2 c)⟩
  | some p =>
   obtain ⟨x,r1⟩:=p
   have e1:=n1 x r1 c
   obtain ⟨h1,h2⟩:=aNh k r1
   have e:aE5 (k+1) l=(aE5 k r1).map fun p=>(x::p.1,p.2):=by simp only [aE5,c]
   have e2:aBG (k+1) (l,false)=(x::(aBG k (r1,false)).1,(aBG k (r1,false)).2):=by simp only [aBG,e1]
   rw [e,e2]
   cases c2:aE5 k r1 with
   | none=>exact ⟨fun ys r e=>(by cases e),fun _=>h2 c2⟩
   | some q =>
    obtain ⟨zs,r2⟩:=q
    rw [h1 zs r2 c2]
    exact ⟨fun ys r e=>(by cases e;rfl),fun e=>(by cases e)⟩
theorem aRN (b:List UInt8):aEl b=aKZ b:=by
 unfold aEl aKZ
 by_cases c1:b.length < 8∨b.take 4≠aC3
 ·rw [if_pos c1,if_pos c1]
 rw [if_neg c1,if_neg c1]
 by_cases c2:b.drop (b.length - 4)≠aCK (b.take (b.length - 4))
 ·rw [if_pos c2,if_pos c2]
 rw [if_neg c2,if_neg c2]
 generalize (b.take (b.length - 4)).drop 4=L
 obtain ⟨n1,n2⟩:=aL5 L
 cases r1:aEL L with
 | none =>
  simp only
  rw [if_pos (.inl (aGD 8 _ (aJ7 _ (n2 r1))))]
 | some p =>
  obtain ⟨t,L1⟩:=p
  rw [n1 t L1 r1]
  simp only
  obtain ⟨m1,m2⟩:=aL5 L1
  cases r2:aEL L1 with
  | none =>
   simp only
   rw [if_pos (.inl (aGD 8 _ (m2 r2)))]
  | some p =>
   obtain ⟨n,L2⟩:=p
   rw [m1 n L2 r2]
   simp only
   obtain ⟨l1,l2⟩:=aNh 8 L2
   cases r3:aE5 8 L2 with
   | none =>
    simp only
    rw [if_pos (.inl (l2 r3))]
   | some p =>
    obtain ⟨ls,rest⟩:=p
    rw [l1 ls rest r3]
    simp only [Bool.false_eq_true,false_or]
theorem aQn (k n:Nat):1≤(enc k n).length:=by
 cases k with
 | zero=>simp [enc]
 | succ k =>
  unfold enc
  split <;> simp
theorem aNB (p:PackD):6≤(aDB p).length:=by
 have h1:=aQn 4 p.tms.toNat
 have h2:=aQn 4 p.nts.toNat
 have lm:aC3.length=4:=rfl
 unfold aDB aEV
 simp only [List.length_append]
 omega
theorem aLl (p:PackD):(aDQ p).length=(aDB p).length+4∧(aDQ p).take ((aDQ p).length - 4)=aDB p∧(aDQ p).drop ((aDQ p).length - 4)=aCK (aDB p)∧(aDQ p).take 4=aC3∧(aDB p).drop 4=aEV p.tms.toNat++(aEV p.nts.toNat++p.lists.flatMap aHr):=by
 have hl:(aDQ p).length=(aDB p).length+4:=by unfold aDQ;rw [List.length_append];rfl
 have hb:=aNB p
 have lm:aC3.length=4:=rfl
 have e:(aDQ p).length - 4=(aDB p).length:=by omega
 have eb:aDB p=aC3++(aEV p.tms.toNat++(aEV p.nts.toNat++p.lists.flatMap aHr)):=by unfold aDB;simp only [List.append_assoc]
 refine ⟨hl,?_,?_,?_,?_⟩
 ·rw [e];unfold aDQ;exact List.take_left ..
 ·rw [e];unfold aDQ;exact List.drop_left ..
 ·unfold aDQ
  rw [List.take_append_of_le_length (by omega),eb]
  exact List.take_left (l₁:=aC3) ..
 ·rw [eb];exact List.drop_left (l₁:=aC3) ..
theorem aQN (s s':Int) (b:UInt8) (h1:0≤s∧s < 4294967296) (h2:0≤s'∧s' < 4294967296) (h:aDt s b=aDt s' b):s=s':=by
 rw [aHP,aHP] at h
 omega
theorem aPK (s:Int) (b b':UInt8) (h:aDt s b=aDt s b'):b=b':=by
 rw [aHP,aHP] at h
 have h1:=UInt8.toNat_lt b
 have h2:=UInt8.toNat_lt b'
 have:b.toNat=b'.toNat:=by omega
 exact UInt8.toNat_inj.1 this
theorem aNq:∀ (l:List UInt8) (s s':Int),0≤s∧s < 4294967296→0≤s'∧s' < 4294967296→l.foldl aDt s=l.foldl aDt s'→s=s'
 | [],s,s',_,_,h=>h
 | b::l,s,s',h1,h2,h=>aQN s s' b h1 h2 (aNq l _ _ (aFk s b) (aFk s' b) h)
theorem aNp:∀ (l:List UInt8) (j:Nat) (hj:j < l.length) (c:UInt8) (s:Int),0≤s∧s < 4294967296→(l.set j c).foldl aDt s=l.foldl aDt s→c=l[j]
 | b::l,0,_,c,s,hs,h=>by
  simp only [List.set_cons_zero,List.foldl_cons] at h
  exact aPK s c b (aNq l _ _ (aFk s c) (aFk s b) h)
 | b::l,j+1,hj,c,s,hs,h=>by
  simp only [List.set_cons_succ,List.foldl_cons] at h
  simp only [List.getElem_cons_succ]
  exact aNp l j (by simpa using hj) c _ (aFk s b) h
theorem aRU {l m:List UInt8} (h:aCK l=aCK m):aE2 l=aE2 m:=by
 have h1:=aOA l
 have h2:=aOA m
 unfold aCK at h
 simp only [List.cons.injEq,and_true] at h
 obtain ⟨a,b,c,d⟩:=h
 have k:∀ x y:Nat,UInt8.ofNat x=UInt8.ofNat y→x % 256=y % 256:=fun x y e=>by
  have:=congrArg UInt8.toNat e
  rw [UInt8.toNat_ofNat',UInt8.toNat_ofNat'] at this
  exact this
 have a:=k _ _ a
 have b:=k _ _ b
 have c:=k _ _ c
 have d:=k _ _ d
 omega
theorem aSI (l:List UInt8) (h8:8≤l.length) (ok:l.drop (l.length - 4)=aCK (l.take (l.length - 4))) (j:Nat) (hj:j < l.length) (c:UInt8) (hc:c≠l[j]):(aKZ (l.set j c)).2≠0:=by
 unfold aKZ
 rw [List.length_set]
 by_cases c1:l.length < 8∨(l.set j c).take 4≠aC3
 ·rw [if_pos c1];decide
 rw [if_neg c1]
 have c2:(l.set j c).drop (l.length - 4)≠aCK ((l.set j c).take (l.length - 4)):=by
  intro e
  by_cases hk:j < l.length - 4
  ·have e1:(l.set j c).drop (l.length - 4)=l.drop (l.length - 4):=List.drop_set_of_lt hk
   have e2:(l.set j c).take (l.length - 4)=(l.take (l.length - 4)).set j c:=by rw [List.take_set]
   rw [e1,e2,ok] at e
   have e3:=aRU e
   have lt:j < (l.take (l.length - 4)).length:=by rw [List.length_take];omega
   have e4:((l.take (l.length - 4)).set j c).foldl aDt 1=(l.take (l.length - 4)).foldl aDt 1:=by
    have a:=aLY (l.take (l.length - 4))
    have b:=aLY ((l.take (l.length - 4)).set j c)
    unfold aLZ at a b
    rw [a,b,e3]
   have:=aNp _ j lt c 1 (by omega) e4
   rw [List.getElem_take] at this
   exact hc this
  ·have e2:(l.set j c).take (l.length - 4)=l.take (l.length - 4):=List.take_set_of_le (by omega)
   rw [e2,← ok] at e
   have g:=congrArg (fun m=>m[j - (l.length - 4)]?) e
   simp only [List.getElem?_drop] at g
   have ej:l.length - 4+(j - (l.length - 4))=j:=by omega
   rw [ej,List.getElem?_set_self hj,List.getElem?_eq_getElem hj] at g
   exact hc (Option.some.inj g)
 rw [if_pos c2]
 decide
end Go.Proofs.Ytgeedikghjcebaa.Ai
