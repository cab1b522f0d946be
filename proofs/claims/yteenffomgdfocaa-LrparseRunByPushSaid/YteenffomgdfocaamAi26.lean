/- Walks by rewriting: the interpreter with a continuation, one equation for each operation. -/
import Derived.Test.YteenffomgdfocaamCAi25
namespace Go.Proofs.Yteenffomgdfocaa.Ai
open Go
open List renaming replicate → Q0
set_option linter.unusedVariables false
set_option linter.unusedSimpArgs false
section
variable {R : Type} {call : aAc} {n : Nat}
def rk (call:aAc) (l:List AOper) (s:St) (K:St→Option R):Option R:=(aAJ call l s).bind K
def ek (call:aAc) (n:Nat) (c:ACode) (s:St) (K:Out→St→Option R):Option R:=(aA1 call n c s).bind fun p=>K p.1 p.2
def cd (v:AV) (x y:Option R):Option R :=
 match v with
 | .bool true=>x
 | .bool false=>y
 | _=>none
def gd (v:AV) (b:Bool) (x y:Option R):Option R :=
 match v with
 | .bool c=>if c==b then x else y
 | .undef=>none
 | .junk=>none
 | _=>y
def sq (o:Out) (x y:Option R):Option R :=
 match o with
 | .normal=>x
 | _=>y
def bk (id:Nat) (o:Out) (K:Out→Option R):Option R :=
 match o with
 | .exit j=>if j=id then K .normal else K (.exit j)
 | o=>K o
theorem aS9 (l:List AOper) (s:St) (K:Out→St→Option R):ek call n (.ops l) s K=rk call l s (K .normal):=by
 simp only [ek,rk,aA1];cases aAJ call l s <;> rfl
theorem aS8 (a b:ACode) (s:St) (K:Out→St→Option R):ek call n (.seq a b) s K=ek call n a s fun o s=>sq o (ek call n b s K) (K o s):=by
 simp only [ek,aA1]
 cases aA1 call n a s with
 | none=>rfl
 | some p =>
  obtain ⟨o,s1⟩:=p
  cases o <;> rfl
theorem aRu (c:AX) (a b:ACode) (t:List AV) (h:aA0) (K:Out→St→Option R):ek call n (.cond c a b) ⟨t,h⟩ K=cd (c.ev t) (ek call n a ⟨t,h⟩ K) (ek call n b ⟨t,h⟩ K):=by
 simp only [ek,aA1,cd]
 generalize c.ev t=v
 cases v <;> try rfl
 rename_i b
 cases b <;> rfl
theorem aQs (id:Nat) (c:ACode) (s:St) (K:Out→St→Option R):ek call n (.block id c) s K=ek call n c s fun o s=>bk id o fun o=>K o s:=by
 simp only [ek,aA1]
 cases aA1 call n c s with
 | none=>rfl
 | some p =>
  obtain ⟨o,s1⟩:=p
  cases o with
  | normal=>rfl
  | ret=>rfl
  | exit j =>
   simp only [Option.bind_some,bk]
   by_cases h:j=id
   ·rw [if_pos h,if_pos h];rfl
   ·rw [if_neg h,if_neg h];rfl
theorem aR9 (c:ACode) (m:Nat) (s:St):aAj (aA1 call n c) (m+1) s=ek call n c s fun o s=>sq o (aAj (aA1 call n c) m s) (some (o,s)):=by
 simp only [aAj,ek]
 cases aA1 call n c s with
 | none=>rfl
 | some p =>
  obtain ⟨o,s1⟩:=p
  cases o <;> rfl
def fin (rs:List ARes) (o:Out) (s:St):Option (AV × aA0) :=
 match o with
 | .exit _=>none
 | _=>(aA6 s rs).map fun v=>(v,s.h)
theorem Zcy (rs:List ARes) (s:St):fin rs .ret s=(aA6 s rs).map fun v=>(v,s.h):=rfl
theorem aRL (nt:Nat) (rs:List ARes) (c:ACode) (args:List AV) (h:aA0):aAS call n ⟨nt,rs,c⟩ args h=ek call n c ⟨args++Q0 (nt - args.length) AV.un,h⟩ (fin rs):=by
 simp only [aAS,ek]
 cases aA1 call n c ⟨args++Q0 (nt - args.length) AV.un,h⟩ with
 | none=>rfl
 | some p =>
  obtain ⟨o,s1⟩:=p
  cases o <;> rfl
theorem aQ5 (d:Option Nat) (op:AOp) (j:Nat) (b:Bool) (r:List AOper) (t:List AV) (h:aA0) (K:St→Option R) :
  rk call (⟨d,op,some (j,b)⟩::r) ⟨t,h⟩ K=gd (t.getD j AV.un) b (rk call (⟨d,op,none⟩::r) ⟨t,h⟩ K) (rk call r ⟨put t d AV.un,h⟩ K):=by
 simp only [rk,aAJ,aAw,wanted,gd,List.getD_eq_getElem?_getD]
 cases hj:t[j]? with
 | none=>rfl
 | some v =>
  cases v <;> try rfl
  rename_i c
  cases c <;> cases b <;> rfl
theorem aDt {o:AOp} {f:List AV→aA0→Option AV} (ho:∀ t h,aop h t o=(f t h).map fun v=>.v v h) (d:Option Nat) (r:List AOper) (t:List AV) (h:aA0) (K:St→Option R) :
  rk call (⟨d,o,none⟩::r) ⟨t,h⟩ K=(f t h).elim none fun v=>rk call r ⟨put t d v,h⟩ K:=by
 simp only [rk,aAJ,aAw,wanted,ho]
 cases f t h <;> rfl
variable (d:Option Nat) (r:List AOper) (t:List AV) (h:aA0) (K:St→Option R)
theorem aR0 (c a b:AX):rk call (⟨d,.pick c a b,none⟩::r) ⟨t,h⟩ K=cd (c.ev t) (rk call r ⟨put t d (a.ev t),h⟩ K) (rk call r ⟨put t d (b.ev t),h⟩ K):=by
 simp only [rk,aAJ,aAw,wanted,aop,cd]
 generalize c.ev t=v
 cases v <;> try rfl
 rename_i b
 cases b <;> rfl
theorem aRN (sz:Nat) (x:AX):rk call (⟨d,.box sz x,none⟩::r) ⟨t,h⟩ K=if (cellsOf (x.ev t)).length=sz then rk call r ⟨put t d (.ptr h.length 0 0 0),h++[.arr 0 sz true [cellsOf (x.ev t)]]⟩ K else none:=by
 simp only [rk,aAJ,aAw,wanted,aop]
 by_cases h1:(cellsOf (x.ev t)).length=sz
 ·rw [if_pos h1,if_pos h1]
 ·rw [if_neg h1,if_neg h1];rfl
theorem aR1 (m:Nat) (g:Bool) (a:AX):rk call (⟨d,.load m g a,none⟩::r) ⟨t,h⟩ K=(aA2 h m g (a.ev t)).elim none fun v=>rk call r ⟨put t d v,h⟩ K:=aDt (f:=fun t h=>aA2 h m g (a.ev t)) (fun _ _=>rfl) d r t h K
theorem aQ3 (m:Nat) (a x:AX):rk call (⟨d,.store m a x,none⟩::r) ⟨t,h⟩ K=(aAq h m (a.ev t) (x.ev t)).elim none fun h=>rk call r ⟨put t d AV.un,h⟩ K:=by
 simp only [rk,aAJ,aAw,wanted,aop]
 cases aAq h m (a.ev t) (x.ev t) <;> rfl
theorem aRO (op:BinOp) (q:EqK) (x y:AX):rk call (⟨d,.bin op q x y,none⟩::r) ⟨t,h⟩ K=(aBE op q (x.ev t) (y.ev t)).elim none fun v=>rk call r ⟨put t d v,h⟩ K:=aDt (f:=fun t h=>aBE op q (x.ev t) (y.ev t)) (fun _ _=>rfl) d r t h K
theorem aSz (op:UnOp) (x:AX):rk call (⟨d,.un op x,none⟩::r) ⟨t,h⟩ K=(aun op (x.ev t)).elim none fun v=>rk call r ⟨put t d v,h⟩ K:=aDt (f:=fun t h=>aun op (x.ev t)) (fun _ _=>rfl) d r t h K
def amk (h:aA0) (sz bytes:Nat) (z:List AV):AV→AV→Option (AV × aA0)
 | .int _ l,.int _ c=>if 0≤l∧l≤c∧c*(bytes+1)≤70368744177664 then some (.hsl h.length 0 0 l.toNat none,h++[.arr 0 sz true (Q0 c.toNat z)]) else none
 | _,_=>none
theorem aO4 (sz bytes:Nat) (z:List AV) (l c:AX):rk call (⟨d,.mkSlice sz bytes z l c,none⟩::r) ⟨t,h⟩ K=(amk h sz bytes z (l.ev t) (c.ev t)).elim none fun p=>rk call r ⟨put t d p.1,p.2⟩ K:=by
 simp only [rk,aAJ,aAw,wanted,aop,amk]
 generalize l.ev t=u
 generalize c.ev t=v
 cases u <;> try rfl
 cases v <;> try rfl
 rename_i k1 a k2 b
 simp only
 by_cases h1:0≤a∧a≤b∧b*(bytes+1)≤70368744177664
 ·rw [if_pos h1,if_pos h1];rfl
 ·rw [if_neg h1,if_neg h1];rfl
theorem aQ4 (sz:Nat) (x:AX) (lo hi mx:Option AX):rk call (⟨d,.slice sz x lo hi mx,none⟩::r) ⟨t,h⟩ K=(aBs h sz (x.ev t) (lo.map (AX.ev t)) (hi.map (AX.ev t)) (mx.map (AX.ev t))).elim none fun v=>rk call r ⟨put t d v,h⟩ K :=
 aDt (f:=fun t h=>aBs h sz (x.ev t) (lo.map (AX.ev t)) (hi.map (AX.ev t)) (mx.map (AX.ev t))) (fun _ _=>rfl) d r t h K
theorem aLO (off:Nat) (x:AX):rk call (⟨d,.fieldAddr off x,none⟩::r) ⟨t,h⟩ K=(aCC h (x.ev t) off).elim none fun v=>rk call r ⟨put t d v,h⟩ K:=aDt (f:=fun t h=>aCC h (x.ev t) off) (fun _ _=>rfl) d r t h K
def aMm (h:aA0):AV→Option AV
 | .fn (.func f) a b=>some (.fn (.func f) a b)
 | x=>aCC h x 0
theorem aN1 (x:AX):rk call (⟨d,.nilCheck x,none⟩::r) ⟨t,h⟩ K=(aMm h (x.ev t)).elim none fun v=>rk call r ⟨put t d v,h⟩ K :=
 aDt (f:=fun t h=>aMm h (x.ev t)) (fun t h=>by
  simp only [aop,aMm]
  generalize x.ev t=v
  cases v <;> try rfl
  rename_i f a b
  cases f <;> rfl) d r t h K
theorem aLN (sz:Nat) (x i:AX):rk call (⟨d,.indexAddr sz x i,none⟩::r) ⟨t,h⟩ K=(aAs h sz (x.ev t) (i.ev t)).elim none fun v=>rk call r ⟨put t d v,h⟩ K:=aDt (f:=fun t h=>aAs h sz (x.ev t) (i.ev t)) (fun _ _=>rfl) d r t h K
def aGg (h:aA0) (q:Sc) (z:AV) (ok:Bool) (m k:AV):Option AV :=
 match aBb h m with
 | some l=>if aDO q k then (aBM q k l 0).map fun r=>aEr ok z r else none
 | none=>none
theorem aP6 (q:Sc) (z:AV) (ok:Bool) (m k:AX):rk call (⟨d,.lookup q z ok m k,none⟩::r) ⟨t,h⟩ K=(aGg h q z ok (m.ev t) (k.ev t)).elim none fun v=>rk call r ⟨put t d v,h⟩ K :=
 aDt (f:=fun t h=>aGg h q z ok (m.ev t) (k.ev t)) (fun t h=>by
  simp only [aop,aGg]
  generalize k.ev t=kv
  cases aBb h (m.ev t) with
  | none=>rfl
  | some l =>
   simp only
   by_cases h1:aDO q kv=true
   ·rw [if_pos h1,if_pos h1];cases aBM q kv l 0 <;> rfl
   ·rw [if_neg h1,if_neg h1];rfl) d r t h K
def aGN (h:aA0) (q:Sc) (m k x:AV):Option aA0 :=
 match m with
 | .map i =>
  match h[i]? with
  | some (.map l)=>if aDO q k then (aBM q k l 0).map fun r=>h.set i (.map (aFL l k x r)) else none
  | _=>none
 | _=>none
theorem aLM (q:Sc) (m k x:AX):rk call (⟨d,.mapUpdate q m k x,none⟩::r) ⟨t,h⟩ K=(aGN h q (m.ev t) (k.ev t) (x.ev t)).elim none fun h=>rk call r ⟨put t d AV.un,h⟩ K:=by
 simp only [rk,aAJ,aAw,wanted,aop,aGN]
 generalize m.ev t=mv
 generalize k.ev t=kv
 cases mv <;> try rfl
 rename_i i
 simp only
 cases h[i]? with
 | none=>rfl
 | some ob =>
  cases ob <;> try rfl
  rename_i l
  simp only
  by_cases h1:aDO q kv=true
  ·rw [if_pos h1,if_pos h1];cases aBM q kv l 0 <;> rfl
  ·rw [if_neg h1,if_neg h1];rfl
def aMq (i:Nat):AV→Option AV
 | .tup l=>l[i]?
 | _=>none
theorem aO5 (x:AX) (i:Nat):rk call (⟨d,.extract x i,none⟩::r) ⟨t,h⟩ K=(aMq i (x.ev t)).elim none fun v=>rk call r ⟨put t d v,h⟩ K :=
 aDt (f:=fun t h=>aMq i (x.ev t)) (fun t h=>by simp only [aop,aMq];generalize x.ev t=v;cases v <;> rfl) d r t h K
theorem aRM (q:LenK) (x:AX):rk call (⟨d,.len q x,none⟩::r) ⟨t,h⟩ K=(aBt h q (x.ev t)).elim none fun v=>rk call r ⟨put t d v,h⟩ K:=aDt (f:=fun t h=>aBt h q (x.ev t)) (fun _ _=>rfl) d r t h K
theorem aP7 (sz bytes:Nat) (s x:AX):rk call (⟨d,.append sz bytes s x,none⟩::r) ⟨t,h⟩ K=(aAI h sz (x.ev t)).elim none fun xs=>(aD0 h sz bytes (s.ev t) xs).elim none fun p=>rk call r ⟨put t d p.1,p.2⟩ K:=by
 simp only [rk,aAJ,aAw,wanted,aop]
 cases aAI h sz (x.ev t) with
 | none=>rfl
 | some xs =>
  simp only [Option.elim_some]
  cases aD0 h sz bytes (s.ev t) xs <;> rfl
theorem aQ6 (z:List AV) (parts:List (Nat × Nat × AX)):rk call (⟨d,.build z parts,none⟩::r) ⟨t,h⟩ K=(aAG z (parts.map fun p=>(p.1,p.2.1,p.2.2.ev t))).elim none fun cs=>rk call r ⟨put t d (.agg cs),h⟩ K:=by
 simp only [rk,aAJ,aAw,wanted,aop]
 cases aAG z (parts.map fun p=>(p.1,p.2.1,p.2.2.ev t)) <;> rfl
def aKl (h:aA0) (heap:Bool) (sz len:Nat) (z:List AV) (parts:List (Nat × AV)):Option (AV × aA0) :=
 if z.length=sz∧len*sz≤16777216 then
  (aAG ((Q0 len z).flatten) (aBD sz parts)).map fun l =>
   if !heap && l.all pure1 then (.vsl true (aDf sz len l),h) else (.hsl h.length 0 0 len none,h++[.arr 0 sz true (aDf sz len l)])
 else none
theorem aKY (heap:Bool) (sz len:Nat) (z:List AV) (parts:List (Nat × AX)):rk call (⟨d,.buildSlice heap sz len z parts,none⟩::r) ⟨t,h⟩ K=(aKl h heap sz len z (parts.map fun p=>(p.1,p.2.ev t))).elim none fun p=>rk call r ⟨put t d p.1,p.2⟩ K:=by
 simp only [rk,aAJ,aAw,wanted,aop,aKl]
 by_cases h1:z.length=sz∧len*sz≤16777216
 ·rw [if_pos h1,if_pos h1]
  cases aAG ((Q0 len z).flatten) (aBD sz (parts.map fun p=>(p.1,p.2.ev t))) with
  | none=>rfl
  | some l =>
   simp only [Option.map_some,Option.elim_some]
   by_cases h2:(!heap && l.all pure1)=true
   ·rw [if_pos h2,if_pos h2]
   ·rw [if_neg h2,if_neg h2]
 ·rw [if_neg h1,if_neg h1];rfl
def ck (call:aAc) (h:aA0) (f:AV) (args:List AV) (K:AV→aA0→Option R):Option R :=
 match f with
 | .fn (.func g) first caps=>(call (.func g) (first++args++caps) h).elim none fun p=>K p.1 p.2
 | .fn (.yield l) _ _=>(call (.yield l) args h).elim none fun p=>K p.1 p.2
 | _=>none
theorem aR2 (f:AX) (args:List AX):rk call (⟨d,.call f args,none⟩::r) ⟨t,h⟩ K=ck call h (f.ev t) (avs t args) fun v h=>rk call r ⟨put t d v,h⟩ K:=by
 simp only [rk,aAJ,aAw,wanted,aop,ck]
 generalize f.ev t=v
 cases v <;> try rfl
 rename_i g first caps
 cases g <;> try rfl
 ·rename_i g
  simp only
  generalize call (.func g) (first++avs t args++caps) h=q
  cases q <;> rfl
 ·rename_i g
  simp only
  generalize call (.yield g) (avs t args) h=q
  cases q <;> rfl
inductive Fr where
 | sq (b:ACode)
 | bk (id:Nat)
def kr (call:aAc) (n:Nat) (F:Out→St→Option R):List Fr→Out→St→Option R
 | [],o,s=>F o s
 | .sq b::fs,o,s=>sq o (ek call n b s (kr call n F fs)) (kr call n F fs o s)
 | .bk id::fs,o,s=>bk id o fun o=>kr call n F fs o s
def eq1 (call:aAc) (n:Nat) (F:Out→St→Option R) (c:ACode) (s:St) (fs:List Fr):Option R:=ek call n c s (kr call n F fs)
def eq2 (call:aAc) (n:Nat) (F:Out→St→Option R) (l:List AOper) (t:List AV) (h:aA0) (fs:List Fr):Option R:=rk call l ⟨t,h⟩ (kr call n F fs .normal)
variable (F:Out→St→Option R) (fs:List Fr)
theorem Zan (o:Out) (s:St):kr call n F [] o s=F o s:=rfl
theorem Zao (b:ACode) (s:St):kr call n F (.sq b::fs) .normal s=eq1 call n F b s fs:=rfl
theorem Zap (b:ACode) (j:Nat) (s:St):kr call n F (.sq b::fs) (.exit j) s=kr call n F fs (.exit j) s:=rfl
theorem Zaq (b:ACode) (s:St):kr call n F (.sq b::fs) .ret s=kr call n F fs .ret s:=rfl
theorem Zar (id:Nat) (s:St):kr call n F (.bk id::fs) .normal s=kr call n F fs .normal s:=rfl
theorem Zas (id:Nat) (s:St):kr call n F (.bk id::fs) .ret s=kr call n F fs .ret s:=rfl
theorem Zat (id:Nat) (s:St):kr call n F (.bk id::fs) (.exit id) s=kr call n F fs .normal s:=by simp [kr,bk]
theorem Zau (id j:Nat) (hj:(j==id)=false) (s:St):kr call n F (.bk id::fs) (.exit j) s=kr call n F fs (.exit j) s:=by
 have:j≠id:=by simpa using hj
 simp [kr,bk,this]
def dcd (call:aAc) (n:Nat) (F:Out→St→Option R) (v:AV) (a b:ACode) (t:List AV) (h:aA0) (fs:List Fr):Option R:=cd v (eq1 call n F a ⟨t,h⟩ fs) (eq1 call n F b ⟨t,h⟩ fs)
theorem Zav (a b:ACode) (t:List AV) (h:aA0):dcd call n F (.bool true) a b t h fs=eq1 call n F a ⟨t,h⟩ fs:=rfl
theorem Zaw (a b:ACode) (t:List AV) (h:aA0):dcd call n F (.bool false) a b t h fs=eq1 call n F b ⟨t,h⟩ fs:=rfl
def dlp (call:aAc) (n:Nat) (F:Out→St→Option R) (o:Option (Out × St)) (fs:List Fr):Option R:=o.bind fun p=>kr call n F fs p.1 p.2
theorem Zax (o:Out) (s:St):dlp call n F (some (o,s)) fs=kr call n F fs o s:=rfl
theorem Zae (s:St):eq1 call n F .skip s fs=kr call n F fs .normal s:=rfl
theorem Zaf (l:List AOper) (t:List AV) (h:aA0):eq1 call n F (.ops l) ⟨t,h⟩ fs=eq2 call n F l t h fs:=aS9 _ _ _
theorem Zag (a b:ACode) (s:St):eq1 call n F (.seq a b) s fs=eq1 call n F a s (.sq b::fs):=by
 rw [eq1,aS8];rfl
theorem Zah (c:AX) (a b:ACode) (t:List AV) (h:aA0):eq1 call n F (.cond c a b) ⟨t,h⟩ fs=dcd call n F (c.ev t) a b t h fs:=by
 rw [eq1,aRu];rfl
theorem Zai (id:Nat) (c:ACode) (s:St):eq1 call n F (.block id c) s fs=eq1 call n F c s (.bk id::fs):=by
 rw [eq1,aQs];rfl
theorem Zaj (c:ACode) (s:St):eq1 call n F (.loop c) s fs=dlp call n F (aAj (aA1 call n c) n s) fs:=rfl
theorem Zak (l:List Bool) (t:List AV) (h:aA0):eq1 call n F (.kill l) ⟨t,h⟩ fs=kr call n F fs .normal ⟨aAz l t,h⟩:=rfl
theorem Zal (id:Nat) (s:St):eq1 call n F (.exit id) s fs=kr call n F fs (.exit id) s:=rfl
theorem Zam (s:St):eq1 call n F .ret s fs=kr call n F fs .ret s:=rfl
def lpF (f:St→Option (Out × St)) (m:Nat) (o:Out) (s:St):Option (Out × St):=sq o (aAj f m s) (some (o,s))
theorem Zay (f:St→Option (Out × St)) (m:Nat) (s:St):lpF f m .normal s=aAj f m s:=rfl
theorem Zaz (f:St→Option (Out × St)) (m j:Nat) (s:St):lpF f m (.exit j) s=some (.exit j,s):=rfl
theorem Zba (f:St→Option (Out × St)) (m:Nat) (s:St):lpF f m .ret s=some (.ret,s):=rfl
theorem aAb (c:ACode) (m:Nat) (s:St):aAj (aA1 call n c) (m+1) s=eq1 call n (lpF (aA1 call n c) m) c s []:=aR9 c m s
theorem aSy (nt:Nat) (rs:List ARes) (c:ACode) (args:List AV) (h:aA0):aAS call n ⟨nt,rs,c⟩ args h=eq1 call n (fin rs) c ⟨args++Q0 (nt - args.length) AV.un,h⟩ []:=aRL _ _ _ _ _
def dv (call:aAc) (n:Nat) (F:Out→St→Option R) (o:Option AV) (d:Option Nat) (r:List AOper) (t:List AV) (h:aA0) (fs:List Fr):Option R:=o.elim none fun v=>eq2 call n F r (put t d v) h fs
theorem Zbc (v:AV) (d:Option Nat) (r:List AOper) (t:List AV) (h:aA0):dv call n F (some v) d r t h fs=eq2 call n F r (put t d v) h fs:=rfl
def dp (call:aAc) (n:Nat) (F:Out→St→Option R) (o:Option (AV × aA0)) (d:Option Nat) (r:List AOper) (t:List AV) (fs:List Fr):Option R:=o.elim none fun p=>eq2 call n F r (put t d p.1) p.2 fs
theorem Zbd (v:AV) (h:aA0) (d:Option Nat) (r:List AOper) (t:List AV):dp call n F (some (v,h)) d r t fs=eq2 call n F r (put t d v) h fs:=rfl
def dh (call:aAc) (n:Nat) (F:Out→St→Option R) (o:Option aA0) (d:Option Nat) (r:List AOper) (t:List AV) (fs:List Fr):Option R:=o.elim none fun h=>eq2 call n F r (put t d AV.un) h fs
theorem Zbe (h:aA0) (d:Option Nat) (r:List AOper) (t:List AV):dh call n F (some h) d r t fs=eq2 call n F r (put t d AV.un) h fs:=rfl
def dg (call:aAc) (n:Nat) (F:Out→St→Option R) (v:AV) (b:Bool) (d:Option Nat) (op:AOp) (r:List AOper) (t:List AV) (h:aA0) (fs:List Fr):Option R:=gd v b (eq2 call n F (⟨d,op,none⟩::r) t h fs) (eq2 call n F r (put t d AV.un) h fs)
theorem Zbf (d:Option Nat) (op:AOp) (r:List AOper) (t:List AV) (h:aA0):dg call n F (.bool true) true d op r t h fs=eq2 call n F (⟨d,op,none⟩::r) t h fs:=rfl
theorem Zbg (d:Option Nat) (op:AOp) (r:List AOper) (t:List AV) (h:aA0):dg call n F (.bool false) false d op r t h fs=eq2 call n F (⟨d,op,none⟩::r) t h fs:=rfl
theorem Zbh (d:Option Nat) (op:AOp) (r:List AOper) (t:List AV) (h:aA0):dg call n F (.bool true) false d op r t h fs=eq2 call n F r (put t d AV.un) h fs:=rfl
theorem Zbi (d:Option Nat) (op:AOp) (r:List AOper) (t:List AV) (h:aA0):dg call n F (.bool false) true d op r t h fs=eq2 call n F r (put t d AV.un) h fs:=rfl
theorem Zbj (b:Bool) (d:Option Nat) (op:AOp) (r:List AOper) (t:List AV) (h:aA0):dg call n F AV.un b d op r t h fs=eq2 call n F r (put t d AV.un) h fs:=rfl
def dpk (call:aAc) (n:Nat) (F:Out→St→Option R) (c a b:AV) (d:Option Nat) (r:List AOper) (t:List AV) (h:aA0) (fs:List Fr):Option R:=cd c (eq2 call n F r (put t d a) h fs) (eq2 call n F r (put t d b) h fs)
theorem Zbk (a b:AV) (d:Option Nat) (r:List AOper) (t:List AV) (h:aA0):dpk call n F (.bool true) a b d r t h fs=eq2 call n F r (put t d a) h fs:=rfl
theorem Zbl (a b:AV) (d:Option Nat) (r:List AOper) (t:List AV) (h:aA0):dpk call n F (.bool false) a b d r t h fs=eq2 call n F r (put t d b) h fs:=rfl
section
variable (d:Option Nat) (r:List AOper) (t:List AV) (h:aA0)
theorem Zbm:eq2 call n F [] t h fs=kr call n F fs .normal ⟨t,h⟩:=rfl
theorem Zbn (op:AOp) (j:Nat) (b:Bool):eq2 call n F (⟨d,op,some (j,b)⟩::r) t h fs=dg call n F (t.getD j AV.un) b d op r t h fs:=aQ5 _ _ _ _ _ _ _ _
theorem Zbo (x:AX):eq2 call n F (⟨d,.mv x,none⟩::r) t h fs=eq2 call n F r (put t d (x.ev t)) h fs:=rfl
theorem Zbp (c a b:AX):eq2 call n F (⟨d,.pick c a b,none⟩::r) t h fs=dpk call n F (c.ev t) (a.ev t) (b.ev t) d r t h fs:=aR0 _ _ _ _ _ _ _ _
theorem Zbq (z:List AV):eq2 call n F (⟨d,.alloc z,none⟩::r) t h fs=eq2 call n F r (put t d (.ptr h.length 0 0 0)) (h++[.arr 0 z.length true [z]]) fs:=rfl
def Zcw (h:aA0) (sz:Nat) (x:AV):Option (AV × aA0):=if (cellsOf x).length=sz then some (.ptr h.length 0 0 0,h++[.arr 0 sz true [cellsOf x]]) else none
theorem Zbr (sz:Nat) (x:AX):eq2 call n F (⟨d,.box sz x,none⟩::r) t h fs=dp call n F (Zcw h sz (x.ev t)) d r t fs:=by
 rw [eq2,aRN,dp,Zcw]
 by_cases h1:(cellsOf (x.ev t)).length=sz
 ·rw [if_pos h1,if_pos h1];rfl
 ·rw [if_neg h1,if_neg h1];rfl
theorem Zbs (m:Nat) (g:Bool) (a:AX):eq2 call n F (⟨d,.load m g a,none⟩::r) t h fs=dv call n F (aA2 h m g (a.ev t)) d r t h fs:=aR1 _ _ _ _ _ _ _ _
theorem Zbt (m:Nat) (a x:AX):eq2 call n F (⟨d,.store m a x,none⟩::r) t h fs=dh call n F (aAq h m (a.ev t) (x.ev t)) d r t fs:=aQ3 _ _ _ _ _ _ _ _
theorem Zbu (op:BinOp) (q:EqK) (x y:AX):eq2 call n F (⟨d,.bin op q x y,none⟩::r) t h fs=dv call n F (aBE op q (x.ev t) (y.ev t)) d r t h fs:=aRO _ _ _ _ _ _ _ _ _
theorem Zbv (op:UnOp) (x:AX):eq2 call n F (⟨d,.un op x,none⟩::r) t h fs=dv call n F (aun op (x.ev t)) d r t h fs:=aSz _ _ _ _ _ _ _
theorem Zbx (f:Fn) (a b:List AX):eq2 call n F (⟨d,.mkFunc f a b,none⟩::r) t h fs=eq2 call n F r (put t d (.fn f (avs t a) (avs t b))) h fs:=rfl
theorem Zby:eq2 call n F (⟨d,.mkMap,none⟩::r) t h fs=eq2 call n F r (put t d (.map h.length)) (h++[.map []]) fs:=rfl
theorem Zbz (sz bytes:Nat) (z:List AV) (l c:AX):eq2 call n F (⟨d,.mkSlice sz bytes z l c,none⟩::r) t h fs=dp call n F (amk h sz bytes z (l.ev t) (c.ev t)) d r t fs:=aO4 _ _ _ _ _ _ _ _ _ _
theorem Zca (sz:Nat) (x:AX) (lo hi mx:Option AX):eq2 call n F (⟨d,.slice sz x lo hi mx,none⟩::r) t h fs=dv call n F (aBs h sz (x.ev t) (lo.map (AX.ev t)) (hi.map (AX.ev t)) (mx.map (AX.ev t))) d r t h fs:=aQ4 _ _ _ _ _ _ _ _ _ _
theorem Zcc (off:Nat) (x:AX):eq2 call n F (⟨d,.fieldAddr off x,none⟩::r) t h fs=dv call n F (aCC h (x.ev t) off) d r t h fs:=aLO _ _ _ _ _ _ _
theorem Zcd (x:AX):eq2 call n F (⟨d,.nilCheck x,none⟩::r) t h fs=dv call n F (aMm h (x.ev t)) d r t h fs:=aN1 _ _ _ _ _ _
theorem Zcf (sz:Nat) (x i:AX):eq2 call n F (⟨d,.indexAddr sz x i,none⟩::r) t h fs=dv call n F (aAs h sz (x.ev t) (i.ev t)) d r t h fs:=aLN _ _ _ _ _ _ _ _
theorem Zch (q:Sc) (z:AV) (ok:Bool) (m k:AX):eq2 call n F (⟨d,.lookup q z ok m k,none⟩::r) t h fs=dv call n F (aGg h q z ok (m.ev t) (k.ev t)) d r t h fs:=aP6 _ _ _ _ _ _ _ _ _ _
theorem Zci (q:Sc) (m k x:AX):eq2 call n F (⟨d,.mapUpdate q m k x,none⟩::r) t h fs=dh call n F (aGN h q (m.ev t) (k.ev t) (x.ev t)) d r t fs:=aLM _ _ _ _ _ _ _ _ _
theorem Zcj (x:AX) (i:Nat):eq2 call n F (⟨d,.extract x i,none⟩::r) t h fs=dv call n F (aMq i (x.ev t)) d r t h fs:=aO5 _ _ _ _ _ _ _
theorem Zck (q:LenK) (x:AX):eq2 call n F (⟨d,.len q x,none⟩::r) t h fs=dv call n F (aBt h q (x.ev t)) d r t h fs:=aRM _ _ _ _ _ _ _
def aGw (h:aA0) (sz bytes:Nat) (s x:AV):Option (AV × aA0):=(aAI h sz x).elim none fun xs=>aD0 h sz bytes s xs
theorem Zcm (sz bytes:Nat) (s x:AX):eq2 call n F (⟨d,.append sz bytes s x,none⟩::r) t h fs=dp call n F (aGw h sz bytes (s.ev t) (x.ev t)) d r t fs:=by
 rw [eq2,aP7,dp,aGw]
 cases aAI h sz (x.ev t) <;> rfl
def evp (t:List AV):List (Nat × Nat × AX)→List (Nat × Nat × AV)
 | []=>[]
 | (a,b,x)::l=>(a,b,x.ev t)::evp t l
theorem aPt (t:List AV):∀ l:List (Nat × Nat × AX),evp t l=l.map fun p=>(p.1,p.2.1,p.2.2.ev t)
 | []=>rfl
 | (a,b,x)::l=>by simp [evp,aPt t l]
def aLC (z:List AV) (l:List (Nat × Nat × AV)):Option AV:=(aAG z l).map .agg
theorem Zcq (z:List AV) (parts:List (Nat × Nat × AX)):eq2 call n F (⟨d,.build z parts,none⟩::r) t h fs=dv call n F (aLC z (evp t parts)) d r t h fs:=by
 rw [eq2,aQ6,dv,aLC,aPt]
 cases aAG z (parts.map fun p=>(p.1,p.2.1,p.2.2.ev t)) <;> rfl
def ev2 (t:List AV):List (Nat × AX)→List (Nat × AV)
 | []=>[]
 | (a,x)::l=>(a,x.ev t)::ev2 t l
theorem aPu (t:List AV):∀ l:List (Nat × AX),ev2 t l=l.map fun p=>(p.1,p.2.ev t)
 | []=>rfl
 | (a,x)::l=>by simp [ev2,aPu t l]
theorem Zcr (heap:Bool) (sz len:Nat) (z:List AV) (parts:List (Nat × AX)):eq2 call n F (⟨d,.buildSlice heap sz len z parts,none⟩::r) t h fs=dp call n F (aKl h heap sz len z (ev2 t parts)) d r t fs:=by
 rw [eq2,aKY,dp,aPu];rfl
def dc (call:aAc) (n:Nat) (F:Out→St→Option R) (f:AV) (args:List AV) (d:Option Nat) (r:List AOper) (t:List AV) (h:aA0) (fs:List Fr):Option R:=ck call h f args fun v h=>eq2 call n F r (put t d v) h fs
theorem Zcu (g:FuncId) (first caps args:List AV):dc call n F (.fn (.func g) first caps) args d r t h fs=dp call n F (call (.func g) (first++args++caps) h) d r t fs:=rfl
theorem Zct (f:AX) (args:List AX):eq2 call n F (⟨d,.call f args,none⟩::r) t h fs=dc call n F (f.ev t) (avs t args) d r t h fs:=aR2 _ _ _ _ _ _ _
end
end
theorem Zcz (t:List AV) (i:Nat):AX.ev t (.t i)=t.getD i AV.un:=rfl
theorem Zda (t:List AV) (v:AV):AX.ev t (.c v)=v:=rfl
theorem Zdb (t:List AV) (d:Nat) (v:AV):put t (some d) v=t.set d v:=rfl
theorem Zdc (t:List AV) (v:AV):put t none v=t:=rfl
theorem Zdd (t:List AV):avs t []=[]:=rfl
theorem Zde (t:List AV) (x:AX) (l:List AX):avs t (x::l)=x.ev t::avs t l:=rfl
theorem Zdf (l:List Bool) (v:AV) (t:List AV):aAz (true::l) (v::t)=v::aAz l t:=rfl
theorem Zdg (l:List Bool) (v:AV) (t:List AV):aAz (false::l) (v::t)=.junk::aAz l t:=rfl
theorem Zdh (t:List AV):aAz [] t=t:=by cases t <;> rfl
end Go.Proofs.Yteenffomgdfocaa.Ai
