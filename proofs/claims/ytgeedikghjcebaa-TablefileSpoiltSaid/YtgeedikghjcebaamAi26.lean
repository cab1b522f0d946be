/- Walks by rewriting: the interpreter with a continuation, one equation for each operation. -/
import Derived.Test.YtgeedikghjcebaamCAi25
namespace Go.Proofs.Ytgeedikghjcebaa.Ai
open Go
open List renaming replicate → Q0
set_option linter.unusedVariables false
set_option linter.unusedSimpArgs false
section
variable {R : Type} {call : aA4} {n : Nat}
def rk (call:aA4) (l:List AOper) (s:St) (K:St→Option R):Option R:=(aB9 call l s).bind K
def ek (call:aA4) (n:Nat) (c:ACode) (s:St) (K:Out→St→Option R):Option R:=(aA9 call n c s).bind fun p=>K p.1 p.2
def cd (v:AV) (x y:Option R):Option R :=
 match v with
 | .bool true=>x
 | .bool false=>y
 | _=>none
def gd (v:AV) (b:Bool) (x y:Option R):Option R :=
 match v with
 | .bool c=>if c==b then x else y
 | .undef=>none
 | .junk=>none
 | _=>y
def sq (o:Out) (x y:Option R):Option R :=
 match o with
 | .normal=>x
 | _=>y
def bk (id:Nat) (o:Out) (K:Out→Option R):Option R :=
 match o with
 | .exit j=>if j=id then K .normal else K (.exit j)
 | o=>K o
theorem aTh (l:List AOper) (s:St) (K:Out→St→Option R):ek call n (.ops l) s K=rk call l s (K .normal):=by
 simp only [ek,rk,aA9];cases aB9 call l s <;> rfl
theorem aTg (a b:ACode) (s:St) (K:Out→St→Option R):ek call n (.seq a b) s K=ek call n a s fun o s=>sq o (ek call n b s K) (K o s):=by
 simp only [ek,aA9]
 cases aA9 call n a s with
 | none=>rfl
 | some p =>
  obtain ⟨o,s1⟩:=p
  cases o <;> rfl
theorem aSi (c:AX) (a b:ACode) (t:List AV) (h:aA0) (K:Out→St→Option R):ek call n (.cond c a b) ⟨t,h⟩ K=cd (c.ev t) (ek call n a ⟨t,h⟩ K) (ek call n b ⟨t,h⟩ K):=by
 simp only [ek,aA9,cd]
 generalize c.ev t=v
 cases v <;> try rfl
 rename_i b
 cases b <;> rfl
theorem aRk (id:Nat) (c:ACode) (s:St) (K:Out→St→Option R):ek call n (.block id c) s K=ek call n c s fun o s=>bk id o fun o=>K o s:=by
 simp only [ek,aA9]
 cases aA9 call n c s with
 | none=>rfl
 | some p =>
  obtain ⟨o,s1⟩:=p
  cases o with
  | normal=>rfl
  | ret=>rfl
  | exit j =>
   simp only [Option.bind_some,bk]
   by_cases h:j=id
   ·rw [if_pos h,if_pos h];rfl
   ·rw [if_neg h,if_neg h];rfl
theorem aS7 (c:ACode) (m:Nat) (s:St):aAw (aA9 call n c) (m+1) s=ek call n c s fun o s=>sq o (aAw (aA9 call n c) m s) (some (o,s)):=by
 simp only [aAw,ek]
 cases aA9 call n c s with
 | none=>rfl
 | some p =>
  obtain ⟨o,s1⟩:=p
  cases o <;> rfl
def fin (rs:List ARes) (o:Out) (s:St):Option (AV × aA0) :=
 match o with
 | .exit _=>none
 | _=>(aAa s rs).map fun v=>(v,s.h)
theorem Zcx (rs:List ARes) (s:St):fin rs .normal s=(aAa s rs).map fun v=>(v,s.h):=rfl
theorem Zcy (rs:List ARes) (s:St):fin rs .ret s=(aAa s rs).map fun v=>(v,s.h):=rfl
theorem aSJ (nt:Nat) (rs:List ARes) (c:ACode) (args:List AV) (h:aA0):aB8 call n ⟨nt,rs,c⟩ args h=ek call n c ⟨args++Q0 (nt - args.length) AV.un,h⟩ (fin rs):=by
 simp only [aB8,ek]
 cases aA9 call n c ⟨args++Q0 (nt - args.length) AV.un,h⟩ with
 | none=>rfl
 | some p =>
  obtain ⟨o,s1⟩:=p
  cases o <;> rfl
theorem aQW (d:Option Nat) (op:AOp) (j:Nat) (b:Bool) (r:List AOper) (t:List AV) (h:aA0) (K:St→Option R) :
  rk call (⟨d,op,some (j,b)⟩::r) ⟨t,h⟩ K=gd (t.getD j AV.un) b (rk call (⟨d,op,none⟩::r) ⟨t,h⟩ K) (rk call r ⟨put t d AV.un,h⟩ K):=by
 simp only [rk,aB9,aAL,wanted,gd,List.getD_eq_getElem?_getD]
 cases hj:t[j]? with
 | none=>rfl
 | some v =>
  cases v <;> try rfl
  rename_i c
  cases c <;> cases b <;> rfl
theorem aCy {o:AOp} {f:List AV→aA0→Option AV} (ho:∀ t h,aop h t o=(f t h).map fun v=>.v v h) (d:Option Nat) (r:List AOper) (t:List AV) (h:aA0) (K:St→Option R) :
  rk call (⟨d,o,none⟩::r) ⟨t,h⟩ K=(f t h).elim none fun v=>rk call r ⟨put t d v,h⟩ K:=by
 simp only [rk,aB9,aAL,wanted,ho]
 cases f t h <;> rfl
variable (d:Option Nat) (r:List AOper) (t:List AV) (h:aA0) (K:St→Option R)
theorem aRY (c a b:AX):rk call (⟨d,.pick c a b,none⟩::r) ⟨t,h⟩ K=cd (c.ev t) (rk call r ⟨put t d (a.ev t),h⟩ K) (rk call r ⟨put t d (b.ev t),h⟩ K):=by
 simp only [rk,aB9,aAL,wanted,aop,cd]
 generalize c.ev t=v
 cases v <;> try rfl
 rename_i b
 cases b <;> rfl
theorem aSM (sz:Nat) (x:AX):rk call (⟨d,.box sz x,none⟩::r) ⟨t,h⟩ K=if (cellsOf (x.ev t)).length=sz then rk call r ⟨put t d (.ptr h.length 0 0 0),h++[.arr 0 sz true [cellsOf (x.ev t)]]⟩ K else none:=by
 simp only [rk,aB9,aAL,wanted,aop]
 by_cases h1:(cellsOf (x.ev t)).length=sz
 ·rw [if_pos h1,if_pos h1]
 ·rw [if_neg h1,if_neg h1];rfl
theorem aRZ (m:Nat) (g:Bool) (a:AX):rk call (⟨d,.load m g a,none⟩::r) ⟨t,h⟩ K=(aAb h m g (a.ev t)).elim none fun v=>rk call r ⟨put t d v,h⟩ K:=aCy (f:=fun t h=>aAb h m g (a.ev t)) (fun _ _=>rfl) d r t h K
theorem aQT (m:Nat) (a x:AX):rk call (⟨d,.store m a x,none⟩::r) ⟨t,h⟩ K=(aAB h m (a.ev t) (x.ev t)).elim none fun h=>rk call r ⟨put t d AV.un,h⟩ K:=by
 simp only [rk,aB9,aAL,wanted,aop]
 cases aAB h m (a.ev t) (x.ev t) <;> rfl
theorem aSN (op:BinOp) (q:EqK) (x y:AX):rk call (⟨d,.bin op q x y,none⟩::r) ⟨t,h⟩ K=(aB6 op q (x.ev t) (y.ev t)).elim none fun v=>rk call r ⟨put t d v,h⟩ K:=aCy (f:=fun t h=>aB6 op q (x.ev t) (y.ev t)) (fun _ _=>rfl) d r t h K
theorem aTG (op:UnOp) (x:AX):rk call (⟨d,.un op x,none⟩::r) ⟨t,h⟩ K=(aun op (x.ev t)).elim none fun v=>rk call r ⟨put t d v,h⟩ K:=aCy (f:=fun t h=>aun op (x.ev t)) (fun _ _=>rfl) d r t h K
def aEv (k:IntKind):AV→Option AV
 | .int _ n=>some (.int k (k.wrap n))
 | _=>none
theorem aP1 (k:IntKind) (x:AX):rk call (⟨d,.convInt k x,none⟩::r) ⟨t,h⟩ K=(aEv k (x.ev t)).elim none fun v=>rk call r ⟨put t d v,h⟩ K :=
 aCy (f:=fun t h=>aEv k (x.ev t)) (fun t h=>by simp only [aop,aEv];generalize x.ev t=v;cases v <;> rfl) d r t h K
theorem aO6 (x:AX):rk call (⟨d,.bytesStr x,none⟩::r) ⟨t,h⟩ K=(aBQ h (x.ev t)).elim none fun v=>rk call r ⟨put t d v,h⟩ K:=aCy (f:=fun t h=>aBQ h (x.ev t)) (fun _ _=>rfl) d r t h K
theorem aQV (x:AX):rk call (⟨d,.markB x,none⟩::r) ⟨t,h⟩ K=(aFM h (x.ev t)).elim none fun v=>rk call r ⟨put t d v,h⟩ K:=aCy (f:=fun t h=>aFM h (x.ev t)) (fun _ _=>rfl) d r t h K
def amk (h:aA0) (sz bytes:Nat) (z:List AV):AV→AV→Option (AV × aA0)
 | .int _ l,.int _ c=>if 0≤l∧l≤c∧c*(bytes+1)≤70368744177664 then some (.hsl h.length 0 0 l.toNat none,h++[.arr 0 sz true (Q0 c.toNat z)]) else none
 | _,_=>none
theorem aOZ (sz bytes:Nat) (z:List AV) (l c:AX):rk call (⟨d,.mkSlice sz bytes z l c,none⟩::r) ⟨t,h⟩ K=(amk h sz bytes z (l.ev t) (c.ev t)).elim none fun p=>rk call r ⟨put t d p.1,p.2⟩ K:=by
 simp only [rk,aB9,aAL,wanted,aop,amk]
 generalize l.ev t=u
 generalize c.ev t=v
 cases u <;> try rfl
 cases v <;> try rfl
 rename_i k1 a k2 b
 simp only
 by_cases h1:0≤a∧a≤b∧b*(bytes+1)≤70368744177664
 ·rw [if_pos h1,if_pos h1];rfl
 ·rw [if_neg h1,if_neg h1];rfl
theorem aQU (sz:Nat) (x:AX) (lo hi mx:Option AX):rk call (⟨d,.slice sz x lo hi mx,none⟩::r) ⟨t,h⟩ K=(aBs h sz (x.ev t) (lo.map (AX.ev t)) (hi.map (AX.ev t)) (mx.map (AX.ev t))).elim none fun v=>rk call r ⟨put t d v,h⟩ K :=
 aCy (f:=fun t h=>aBs h sz (x.ev t) (lo.map (AX.ev t)) (hi.map (AX.ev t)) (mx.map (AX.ev t))) (fun _ _=>rfl) d r t h K
theorem aN7 (off:Nat) (x:AX):rk call (⟨d,.fieldAddr off x,none⟩::r) ⟨t,h⟩ K=(aEq h (x.ev t) off).elim none fun v=>rk call r ⟨put t d v,h⟩ K:=aCy (f:=fun t h=>aEq h (x.ev t) off) (fun _ _=>rfl) d r t h K
def aNM (h:aA0):AV→Option AV
 | .fn (.func f) a b=>some (.fn (.func f) a b)
 | x=>aEq h x 0
theorem aO5 (x:AX):rk call (⟨d,.nilCheck x,none⟩::r) ⟨t,h⟩ K=(aNM h (x.ev t)).elim none fun v=>rk call r ⟨put t d v,h⟩ K :=
 aCy (f:=fun t h=>aNM h (x.ev t)) (fun t h=>by
  simp only [aop,aNM]
  generalize x.ev t=v
  cases v <;> try rfl
  rename_i f a b
  cases f <;> rfl) d r t h K
theorem aN6 (sz:Nat) (x i:AX):rk call (⟨d,.indexAddr sz x i,none⟩::r) ⟨t,h⟩ K=(aAN h sz (x.ev t) (i.ev t)).elim none fun v=>rk call r ⟨put t d v,h⟩ K:=aCy (f:=fun t h=>aAN h sz (x.ev t) (i.ev t)) (fun _ _=>rfl) d r t h K
def aNO (i:Nat):AV→Option AV
 | .tup l=>l[i]?
 | _=>none
theorem aP0 (x:AX) (i:Nat):rk call (⟨d,.extract x i,none⟩::r) ⟨t,h⟩ K=(aNO i (x.ev t)).elim none fun v=>rk call r ⟨put t d v,h⟩ K :=
 aCy (f:=fun t h=>aNO i (x.ev t)) (fun t h=>by simp only [aop,aNO];generalize x.ev t=v;cases v <;> rfl) d r t h K
theorem aSK (q:LenK) (x:AX):rk call (⟨d,.len q x,none⟩::r) ⟨t,h⟩ K=(aBX h q (x.ev t)).elim none fun v=>rk call r ⟨put t d v,h⟩ K:=aCy (f:=fun t h=>aBX h q (x.ev t)) (fun _ _=>rfl) d r t h K
theorem aSL (x:AX):rk call (⟨d,.cap x,none⟩::r) ⟨t,h⟩ K=(aEs h (x.ev t)).elim none fun v=>rk call r ⟨put t d v,h⟩ K:=aCy (f:=fun t h=>aEs h (x.ev t)) (fun _ _=>rfl) d r t h K
theorem aPW (sz bytes:Nat) (s x:AX):rk call (⟨d,.append sz bytes s x,none⟩::r) ⟨t,h⟩ K=(aAC h sz (x.ev t)).elim none fun xs=>(aCP h sz bytes (s.ev t) xs).elim none fun p=>rk call r ⟨put t d p.1,p.2⟩ K:=by
 simp only [rk,aB9,aAL,wanted,aop]
 cases aAC h sz (x.ev t) with
 | none=>rfl
 | some xs =>
  simp only [Option.elim_some]
  cases aCP h sz bytes (s.ev t) xs <;> rfl
def aHJ (mx:Bool):List AV→Option AV
 | .int k n::r=>amm mx (.int k n) r
 | _=>none
theorem aPV (mx:Bool) (xs:List AX):rk call (⟨d,.minmax mx xs,none⟩::r) ⟨t,h⟩ K=(aHJ mx (avs t xs)).elim none fun v=>rk call r ⟨put t d v,h⟩ K :=
 aCy (f:=fun t h=>aHJ mx (avs t xs)) (fun t h=>by
  simp only [aop,aHJ]
  generalize avs t xs=l
  cases l with
  | nil=>rfl
  | cons a b=>cases a <;> rfl) d r t h K
theorem aQX (z:List AV) (parts:List (Nat × Nat × AX)):rk call (⟨d,.build z parts,none⟩::r) ⟨t,h⟩ K=(aAF z (parts.map fun p=>(p.1,p.2.1,p.2.2.ev t))).elim none fun cs=>rk call r ⟨put t d (.agg cs),h⟩ K:=by
 simp only [rk,aB9,aAL,wanted,aop]
 cases aAF z (parts.map fun p=>(p.1,p.2.1,p.2.2.ev t)) <;> rfl
def aBH (h:aA0) (heap:Bool) (sz len:Nat) (z:List AV) (parts:List (Nat × AV)):Option (AV × aA0) :=
 if z.length=sz∧len*sz≤16777216 then
  (aAF ((Q0 len z).flatten) (aB4 sz parts)).map fun l =>
   if !heap && l.all pure1 then (.vsl true (aCh sz len l),h) else (.hsl h.length 0 0 len none,h++[.arr 0 sz true (aCh sz len l)])
 else none
theorem aML (heap:Bool) (sz len:Nat) (z:List AV) (parts:List (Nat × AX)):rk call (⟨d,.buildSlice heap sz len z parts,none⟩::r) ⟨t,h⟩ K=(aBH h heap sz len z (parts.map fun p=>(p.1,p.2.ev t))).elim none fun p=>rk call r ⟨put t d p.1,p.2⟩ K:=by
 simp only [rk,aB9,aAL,wanted,aop,aBH]
 by_cases h1:z.length=sz∧len*sz≤16777216
 ·rw [if_pos h1,if_pos h1]
  cases aAF ((Q0 len z).flatten) (aB4 sz (parts.map fun p=>(p.1,p.2.ev t))) with
  | none=>rfl
  | some l =>
   simp only [Option.map_some,Option.elim_some]
   by_cases h2:(!heap && l.all pure1)=true
   ·rw [if_pos h2,if_pos h2]
   ·rw [if_neg h2,if_neg h2]
 ·rw [if_neg h1,if_neg h1];rfl
def ck (call:aA4) (h:aA0) (f:AV) (args:List AV) (K:AV→aA0→Option R):Option R :=
 match f with
 | .fn (.func g) first caps=>(call (.func g) (first++args++caps) h).elim none fun p=>K p.1 p.2
 | .fn (.yield l) _ _=>(call (.yield l) args h).elim none fun p=>K p.1 p.2
 | _=>none
theorem aS0 (f:AX) (args:List AX):rk call (⟨d,.call f args,none⟩::r) ⟨t,h⟩ K=ck call h (f.ev t) (avs t args) fun v h=>rk call r ⟨put t d v,h⟩ K:=by
 simp only [rk,aB9,aAL,wanted,aop,ck]
 generalize f.ev t=v
 cases v <;> try rfl
 rename_i g first caps
 cases g <;> try rfl
 ·rename_i g
  simp only
  generalize call (.func g) (first++avs t args++caps) h=q
  cases q <;> rfl
 ·rename_i g
  simp only
  generalize call (.yield g) (avs t args) h=q
  cases q <;> rfl
inductive Fr where
 | sq (b:ACode)
 | bk (id:Nat)
def kr (call:aA4) (n:Nat) (F:Out→St→Option R):List Fr→Out→St→Option R
 | [],o,s=>F o s
 | .sq b::fs,o,s=>sq o (ek call n b s (kr call n F fs)) (kr call n F fs o s)
 | .bk id::fs,o,s=>bk id o fun o=>kr call n F fs o s
def eq1 (call:aA4) (n:Nat) (F:Out→St→Option R) (c:ACode) (s:St) (fs:List Fr):Option R:=ek call n c s (kr call n F fs)
def eq2 (call:aA4) (n:Nat) (F:Out→St→Option R) (l:List AOper) (t:List AV) (h:aA0) (fs:List Fr):Option R:=rk call l ⟨t,h⟩ (kr call n F fs .normal)
variable (F:Out→St→Option R) (fs:List Fr)
theorem Zan (o:Out) (s:St):kr call n F [] o s=F o s:=rfl
theorem Zao (b:ACode) (s:St):kr call n F (.sq b::fs) .normal s=eq1 call n F b s fs:=rfl
theorem Zap (b:ACode) (j:Nat) (s:St):kr call n F (.sq b::fs) (.exit j) s=kr call n F fs (.exit j) s:=rfl
theorem Zaq (b:ACode) (s:St):kr call n F (.sq b::fs) .ret s=kr call n F fs .ret s:=rfl
theorem Zar (id:Nat) (s:St):kr call n F (.bk id::fs) .normal s=kr call n F fs .normal s:=rfl
theorem Zas (id:Nat) (s:St):kr call n F (.bk id::fs) .ret s=kr call n F fs .ret s:=rfl
theorem Zat (id:Nat) (s:St):kr call n F (.bk id::fs) (.exit id) s=kr call n F fs .normal s:=by simp [kr,bk]
theorem Zau (id j:Nat) (hj:(j==id)=false) (s:St):kr call n F (.bk id::fs) (.exit j) s=kr call n F fs (.exit j) s:=by
 have:j≠id:=by simpa using hj
 simp [kr,bk,this]
def dcd (call:aA4) (n:Nat) (F:Out→St→Option R) (v:AV) (a b:ACode) (t:List AV) (h:aA0) (fs:List Fr):Option R:=cd v (eq1 call n F a ⟨t,h⟩ fs) (eq1 call n F b ⟨t,h⟩ fs)
theorem Zav (a b:ACode) (t:List AV) (h:aA0):dcd call n F (.bool true) a b t h fs=eq1 call n F a ⟨t,h⟩ fs:=rfl
theorem Zaw (a b:ACode) (t:List AV) (h:aA0):dcd call n F (.bool false) a b t h fs=eq1 call n F b ⟨t,h⟩ fs:=rfl
def dlp (call:aA4) (n:Nat) (F:Out→St→Option R) (o:Option (Out × St)) (fs:List Fr):Option R:=o.bind fun p=>kr call n F fs p.1 p.2
theorem Zax (o:Out) (s:St):dlp call n F (some (o,s)) fs=kr call n F fs o s:=rfl
theorem Zae (s:St):eq1 call n F .skip s fs=kr call n F fs .normal s:=rfl
theorem Zaf (l:List AOper) (t:List AV) (h:aA0):eq1 call n F (.ops l) ⟨t,h⟩ fs=eq2 call n F l t h fs:=aTh _ _ _
theorem Zag (a b:ACode) (s:St):eq1 call n F (.seq a b) s fs=eq1 call n F a s (.sq b::fs):=by
 rw [eq1,aTg];rfl
theorem Zah (c:AX) (a b:ACode) (t:List AV) (h:aA0):eq1 call n F (.cond c a b) ⟨t,h⟩ fs=dcd call n F (c.ev t) a b t h fs:=by
 rw [eq1,aSi];rfl
theorem Zai (id:Nat) (c:ACode) (s:St):eq1 call n F (.block id c) s fs=eq1 call n F c s (.bk id::fs):=by
 rw [eq1,aRk];rfl
theorem Zaj (c:ACode) (s:St):eq1 call n F (.loop c) s fs=dlp call n F (aAw (aA9 call n c) n s) fs:=rfl
theorem Zak (l:List Bool) (t:List AV) (h:aA0):eq1 call n F (.kill l) ⟨t,h⟩ fs=kr call n F fs .normal ⟨aC4 l t,h⟩:=rfl
theorem Zal (id:Nat) (s:St):eq1 call n F (.exit id) s fs=kr call n F fs (.exit id) s:=rfl
theorem Zam (s:St):eq1 call n F .ret s fs=kr call n F fs .ret s:=rfl
def lpF (f:St→Option (Out × St)) (m:Nat) (o:Out) (s:St):Option (Out × St):=sq o (aAw f m s) (some (o,s))
theorem Zay (f:St→Option (Out × St)) (m:Nat) (s:St):lpF f m .normal s=aAw f m s:=rfl
theorem Zaz (f:St→Option (Out × St)) (m j:Nat) (s:St):lpF f m (.exit j) s=some (.exit j,s):=rfl
theorem Zba (f:St→Option (Out × St)) (m:Nat) (s:St):lpF f m .ret s=some (.ret,s):=rfl
theorem aAj (c:ACode) (m:Nat) (s:St):aAw (aA9 call n c) (m+1) s=eq1 call n (lpF (aA9 call n c) m) c s []:=aS7 c m s
theorem aTF (nt:Nat) (rs:List ARes) (c:ACode) (args:List AV) (h:aA0):aB8 call n ⟨nt,rs,c⟩ args h=eq1 call n (fin rs) c ⟨args++Q0 (nt - args.length) AV.un,h⟩ []:=aSJ _ _ _ _ _
def dv (call:aA4) (n:Nat) (F:Out→St→Option R) (o:Option AV) (d:Option Nat) (r:List AOper) (t:List AV) (h:aA0) (fs:List Fr):Option R:=o.elim none fun v=>eq2 call n F r (put t d v) h fs
theorem Zbc (v:AV) (d:Option Nat) (r:List AOper) (t:List AV) (h:aA0):dv call n F (some v) d r t h fs=eq2 call n F r (put t d v) h fs:=rfl
def dp (call:aA4) (n:Nat) (F:Out→St→Option R) (o:Option (AV × aA0)) (d:Option Nat) (r:List AOper) (t:List AV) (fs:List Fr):Option R:=o.elim none fun p=>eq2 call n F r (put t d p.1) p.2 fs
theorem Zbd (v:AV) (h:aA0) (d:Option Nat) (r:List AOper) (t:List AV):dp call n F (some (v,h)) d r t fs=eq2 call n F r (put t d v) h fs:=rfl
def dh (call:aA4) (n:Nat) (F:Out→St→Option R) (o:Option aA0) (d:Option Nat) (r:List AOper) (t:List AV) (fs:List Fr):Option R:=o.elim none fun h=>eq2 call n F r (put t d AV.un) h fs
theorem Zbe (h:aA0) (d:Option Nat) (r:List AOper) (t:List AV):dh call n F (some h) d r t fs=eq2 call n F r (put t d AV.un) h fs:=rfl
def dg (call:aA4) (n:Nat) (F:Out→St→Option R) (v:AV) (b:Bool) (d:Option Nat) (op:AOp) (r:List AOper) (t:List AV) (h:aA0) (fs:List Fr):Option R:=gd v b (eq2 call n F (⟨d,op,none⟩::r) t h fs) (eq2 call n F r (put t d AV.un) h fs)
theorem Zbf (d:Option Nat) (op:AOp) (r:List AOper) (t:List AV) (h:aA0):dg call n F (.bool true) true d op r t h fs=eq2 call n F (⟨d,op,none⟩::r) t h fs:=rfl
theorem Zbg (d:Option Nat) (op:AOp) (r:List AOper) (t:List AV) (h:aA0):dg call n F (.bool false) false d op r t h fs=eq2 call n F (⟨d,op,none⟩::r) t h fs:=rfl
theorem Zbh (d:Option Nat) (op:AOp) (r:List AOper) (t:List AV) (h:aA0):dg call n F (.bool true) false d op r t h fs=eq2 call n F r (put t d AV.un) h fs:=rfl
theorem Zbi (d:Option Nat) (op:AOp) (r:List AOper) (t:List AV) (h:aA0):dg call n F (.bool false) true d op r t h fs=eq2 call n F r (put t d AV.un) h fs:=rfl
theorem Zbj (b:Bool) (d:Option Nat) (op:AOp) (r:List AOper) (t:List AV) (h:aA0):dg call n F AV.un b d op r t h fs=eq2 call n F r (put t d AV.un) h fs:=rfl
def dpk (call:aA4) (n:Nat) (F:Out→St→Option R) (c a b:AV) (d:Option Nat) (r:List AOper) (t:List AV) (h:aA0) (fs:List Fr):Option R:=cd c (eq2 call n F r (put t d a) h fs) (eq2 call n F r (put t d b) h fs)
theorem Zbk (a b:AV) (d:Option Nat) (r:List AOper) (t:List AV) (h:aA0):dpk call n F (.bool true) a b d r t h fs=eq2 call n F r (put t d a) h fs:=rfl
theorem Zbl (a b:AV) (d:Option Nat) (r:List AOper) (t:List AV) (h:aA0):dpk call n F (.bool false) a b d r t h fs=eq2 call n F r (put t d b) h fs:=rfl
section
variable (d:Option Nat) (r:List AOper) (t:List AV) (h:aA0)
theorem Zbm:eq2 call n F [] t h fs=kr call n F fs .normal ⟨t,h⟩:=rfl
theorem Zbn (op:AOp) (j:Nat) (b:Bool):eq2 call n F (⟨d,op,some (j,b)⟩::r) t h fs=dg call n F (t.getD j AV.un) b d op r t h fs:=aQW _ _ _ _ _ _ _ _
theorem Zbo (x:AX):eq2 call n F (⟨d,.mv x,none⟩::r) t h fs=eq2 call n F r (put t d (x.ev t)) h fs:=rfl
theorem Zbp (c a b:AX):eq2 call n F (⟨d,.pick c a b,none⟩::r) t h fs=dpk call n F (c.ev t) (a.ev t) (b.ev t) d r t h fs:=aRY _ _ _ _ _ _ _ _
theorem Zbq (z:List AV):eq2 call n F (⟨d,.alloc z,none⟩::r) t h fs=eq2 call n F r (put t d (.ptr h.length 0 0 0)) (h++[.arr 0 z.length true [z]]) fs:=rfl
def Zcw (h:aA0) (sz:Nat) (x:AV):Option (AV × aA0):=if (cellsOf x).length=sz then some (.ptr h.length 0 0 0,h++[.arr 0 sz true [cellsOf x]]) else none
theorem Zbr (sz:Nat) (x:AX):eq2 call n F (⟨d,.box sz x,none⟩::r) t h fs=dp call n F (Zcw h sz (x.ev t)) d r t fs:=by
 rw [eq2,aSM,dp,Zcw]
 by_cases h1:(cellsOf (x.ev t)).length=sz
 ·rw [if_pos h1,if_pos h1];rfl
 ·rw [if_neg h1,if_neg h1];rfl
theorem Zbs (m:Nat) (g:Bool) (a:AX):eq2 call n F (⟨d,.load m g a,none⟩::r) t h fs=dv call n F (aAb h m g (a.ev t)) d r t h fs:=aRZ _ _ _ _ _ _ _ _
theorem Zbt (m:Nat) (a x:AX):eq2 call n F (⟨d,.store m a x,none⟩::r) t h fs=dh call n F (aAB h m (a.ev t) (x.ev t)) d r t fs:=aQT _ _ _ _ _ _ _ _
theorem Zbu (op:BinOp) (q:EqK) (x y:AX):eq2 call n F (⟨d,.bin op q x y,none⟩::r) t h fs=dv call n F (aB6 op q (x.ev t) (y.ev t)) d r t h fs:=aSN _ _ _ _ _ _ _ _ _
theorem Zbv (op:UnOp) (x:AX):eq2 call n F (⟨d,.un op x,none⟩::r) t h fs=dv call n F (aun op (x.ev t)) d r t h fs:=aTG _ _ _ _ _ _ _
theorem Zbw (k:IntKind) (x:AX):eq2 call n F (⟨d,.convInt k x,none⟩::r) t h fs=dv call n F (aEv k (x.ev t)) d r t h fs:=aP1 _ _ _ _ _ _ _
theorem Zab (x:AX):eq2 call n F (⟨d,.bytesStr x,none⟩::r) t h fs=dv call n F (aBQ h (x.ev t)) d r t h fs:=aO6 _ _ _ _ _ _
theorem Zad (x:AX):eq2 call n F (⟨d,.markB x,none⟩::r) t h fs=dv call n F (aFM h (x.ev t)) d r t h fs:=aQV _ _ _ _ _ _
theorem Zbx (f:Fn) (a b:List AX):eq2 call n F (⟨d,.mkFunc f a b,none⟩::r) t h fs=eq2 call n F r (put t d (.fn f (avs t a) (avs t b))) h fs:=rfl
theorem Zbz (sz bytes:Nat) (z:List AV) (l c:AX):eq2 call n F (⟨d,.mkSlice sz bytes z l c,none⟩::r) t h fs=dp call n F (amk h sz bytes z (l.ev t) (c.ev t)) d r t fs:=aOZ _ _ _ _ _ _ _ _ _ _
theorem Zca (sz:Nat) (x:AX) (lo hi mx:Option AX):eq2 call n F (⟨d,.slice sz x lo hi mx,none⟩::r) t h fs=dv call n F (aBs h sz (x.ev t) (lo.map (AX.ev t)) (hi.map (AX.ev t)) (mx.map (AX.ev t))) d r t h fs:=aQU _ _ _ _ _ _ _ _ _ _
theorem Zcc (off:Nat) (x:AX):eq2 call n F (⟨d,.fieldAddr off x,none⟩::r) t h fs=dv call n F (aEq h (x.ev t) off) d r t h fs:=aN7 _ _ _ _ _ _ _
theorem Zcd (x:AX):eq2 call n F (⟨d,.nilCheck x,none⟩::r) t h fs=dv call n F (aNM h (x.ev t)) d r t h fs:=aO5 _ _ _ _ _ _
theorem Zcf (sz:Nat) (x i:AX):eq2 call n F (⟨d,.indexAddr sz x i,none⟩::r) t h fs=dv call n F (aAN h sz (x.ev t) (i.ev t)) d r t h fs:=aN6 _ _ _ _ _ _ _ _
theorem Zcj (x:AX) (i:Nat):eq2 call n F (⟨d,.extract x i,none⟩::r) t h fs=dv call n F (aNO i (x.ev t)) d r t h fs:=aP0 _ _ _ _ _ _ _
theorem Zck (q:LenK) (x:AX):eq2 call n F (⟨d,.len q x,none⟩::r) t h fs=dv call n F (aBX h q (x.ev t)) d r t h fs:=aSK _ _ _ _ _ _ _
theorem Zcl (x:AX):eq2 call n F (⟨d,.cap x,none⟩::r) t h fs=dv call n F (aEs h (x.ev t)) d r t h fs:=aSL _ _ _ _ _ _
def aD9 (h:aA0) (sz bytes:Nat) (s x:AV):Option (AV × aA0):=(aAC h sz x).elim none fun xs=>aCP h sz bytes s xs
theorem Zcm (sz bytes:Nat) (s x:AX):eq2 call n F (⟨d,.append sz bytes s x,none⟩::r) t h fs=dp call n F (aD9 h sz bytes (s.ev t) (x.ev t)) d r t fs:=by
 rw [eq2,aPW,dp,aD9]
 cases aAC h sz (x.ev t) <;> rfl
theorem Zcp (mx:Bool) (xs:List AX):eq2 call n F (⟨d,.minmax mx xs,none⟩::r) t h fs=dv call n F (aHJ mx (avs t xs)) d r t h fs:=aPV _ _ _ _ _ _ _
def evp (t:List AV):List (Nat × Nat × AX)→List (Nat × Nat × AV)
 | []=>[]
 | (a,b,x)::l=>(a,b,x.ev t)::evp t l
theorem aQl (t:List AV):∀ l:List (Nat × Nat × AX),evp t l=l.map fun p=>(p.1,p.2.1,p.2.2.ev t)
 | []=>rfl
 | (a,b,x)::l=>by simp [evp,aQl t l]
def aDT (z:List AV) (l:List (Nat × Nat × AV)):Option AV:=(aAF z l).map .agg
theorem Zcq (z:List AV) (parts:List (Nat × Nat × AX)):eq2 call n F (⟨d,.build z parts,none⟩::r) t h fs=dv call n F (aDT z (evp t parts)) d r t h fs:=by
 rw [eq2,aQX,dv,aDT,aQl]
 cases aAF z (parts.map fun p=>(p.1,p.2.1,p.2.2.ev t)) <;> rfl
def ev2 (t:List AV):List (Nat × AX)→List (Nat × AV)
 | []=>[]
 | (a,x)::l=>(a,x.ev t)::ev2 t l
theorem aQm (t:List AV):∀ l:List (Nat × AX),ev2 t l=l.map fun p=>(p.1,p.2.ev t)
 | []=>rfl
 | (a,x)::l=>by simp [ev2,aQm t l]
theorem Zcr (heap:Bool) (sz len:Nat) (z:List AV) (parts:List (Nat × AX)):eq2 call n F (⟨d,.buildSlice heap sz len z parts,none⟩::r) t h fs=dp call n F (aBH h heap sz len z (ev2 t parts)) d r t fs:=by
 rw [eq2,aML,dp,aQm];rfl
def dc (call:aA4) (n:Nat) (F:Out→St→Option R) (f:AV) (args:List AV) (d:Option Nat) (r:List AOper) (t:List AV) (h:aA0) (fs:List Fr):Option R:=ck call h f args fun v h=>eq2 call n F r (put t d v) h fs
theorem Zcu (g:FuncId) (first caps args:List AV):dc call n F (.fn (.func g) first caps) args d r t h fs=dp call n F (call (.func g) (first++args++caps) h) d r t fs:=rfl
theorem Zct (f:AX) (args:List AX):eq2 call n F (⟨d,.call f args,none⟩::r) t h fs=dc call n F (f.ev t) (avs t args) d r t h fs:=aS0 _ _ _ _ _ _ _
end
end
theorem Zcz (t:List AV) (i:Nat):AX.ev t (.t i)=t.getD i AV.un:=rfl
theorem Zda (t:List AV) (v:AV):AX.ev t (.c v)=v:=rfl
theorem Zdb (t:List AV) (d:Nat) (v:AV):put t (some d) v=t.set d v:=rfl
theorem Zdc (t:List AV) (v:AV):put t none v=t:=rfl
theorem Zdd (t:List AV):avs t []=[]:=rfl
theorem Zde (t:List AV) (x:AX) (l:List AX):avs t (x::l)=x.ev t::avs t l:=rfl
theorem Zdf (l:List Bool) (v:AV) (t:List AV):aC4 (true::l) (v::t)=v::aC4 l t:=rfl
theorem Zdg (l:List Bool) (v:AV) (t:List AV):aC4 (false::l) (v::t)=.junk::aC4 l t:=rfl
theorem Zdh (t:List AV):aC4 [] t=t:=by cases t <;> rfl
end Go.Proofs.Ytgeedikghjcebaa.Ai
