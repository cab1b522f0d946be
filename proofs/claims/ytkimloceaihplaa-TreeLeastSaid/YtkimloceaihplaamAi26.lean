/- Walks by rewriting: the interpreter with a continuation, one equation for each operation. -/
import Derived.Test.YtkimloceaihplaamCAi25
namespace Go.Proofs.Ytkimloceaihplaa.Ai
open Go
open List renaming replicate → Q0
set_option linter.unusedVariables false
set_option linter.unusedSimpArgs false
section
variable {R : Type} {call : CallT} {n : Nat}
def rk (call : CallT) (l : List AOper) (s : St) (K : St → Option R) : Option R := (runOps call l s).bind K
def ek (call : CallT) (n : Nat) (c : ACode) (s : St) (K : Out → St → Option R) : Option R := (evalCode call n c s).bind fun p => K p.1 p.2
def cd (v : AV) (x y : Option R) : Option R :=
 match v with
 | .bool true => x
 | .bool false => y
 | _ => none
def gd (v : AV) (b : Bool) (x y : Option R) : Option R :=
 match v with
 | .bool c => if c == b then x else y
 | .undef => none
 | .junk => none
 | _ => y
def sq (o : Out) (x y : Option R) : Option R :=
 match o with
 | .normal => x
 | _ => y
def bk (id : Nat) (o : Out) (K : Out → Option R) : Option R :=
 match o with
 | .exit j => if j = id then K .normal else K (.exit j)
 | o => K o
theorem ek_ops (l : List AOper) (s : St) (K : Out → St → Option R) : ek call n (.ops l) s K = rk call l s (K .normal) := by
 simp only [ek,rk,evalCode]; cases runOps call l s <;> rfl
theorem ek_seq (a b : ACode) (s : St) (K : Out → St → Option R) : ek call n (.seq a b) s K = ek call n a s fun o s => sq o (ek call n b s K) (K o s) := by
 simp only [ek,evalCode]
 cases evalCode call n a s with
 | none => rfl
 | some p =>
  obtain ⟨o, s1⟩ := p
  cases o <;> rfl
theorem ek_cond (c : AX) (a b : ACode) (t : List AV) (h : AHeap) (K : Out → St → Option R) : ek call n (.cond c a b) ⟨t, h⟩ K = cd (c.ev t) (ek call n a ⟨t, h⟩ K) (ek call n b ⟨t, h⟩ K) := by
 simp only [ek,evalCode,cd]
 generalize c.ev t = v
 cases v <;> try rfl
 rename_i b
 cases b <;> rfl
theorem ek_block (id : Nat) (c : ACode) (s : St) (K : Out → St → Option R) : ek call n (.block id c) s K = ek call n c s fun o s => bk id o fun o => K o s := by
 simp only [ek,evalCode]
 cases evalCode call n c s with
 | none => rfl
 | some p =>
  obtain ⟨o, s1⟩ := p
  cases o with
  | normal => rfl
  | ret => rfl
  | exit j =>
   simp only [Option.bind_some,bk]
   by_cases h : j = id
   ·rw [if_pos h, if_pos h]; rfl
   ·rw [if_neg h, if_neg h]; rfl
theorem loop_ek (c : ACode) (m : Nat) (s : St) : loopN (evalCode call n c) (m + 1) s = ek call n c s fun o s => sq o (loopN (evalCode call n c) m s) (some (o, s)) := by
 simp only [loopN,ek]
 cases evalCode call n c s with
 | none => rfl
 | some p =>
  obtain ⟨o, s1⟩ := p
  cases o <;> rfl
theorem eval_ek (c : ACode) (s : St) : evalCode call n c s = ek call n c s fun o s => some (o, s) := by
 simp only [ek]
 cases evalCode call n c s <;> rfl
def fin (rs : List ARes) (o : Out) (s : St) : Option (AV × AHeap) :=
 match o with
 | .exit _ => none
 | _ => (resAll s rs).map fun v => (v, s.h)
theorem Zct (rs : List ARes) (s : St) : fin rs .normal s = (resAll s rs).map fun v => (v, s.h) := rfl
theorem Zcu (rs : List ARes) (s : St) : fin rs .ret s = (resAll s rs).map fun v => (v, s.h) := rfl
theorem run_ek (nt : Nat) (rs : List ARes) (c : ACode) (args : List AV) (h : AHeap) : runFn call n ⟨nt, rs, c⟩ args h = ek call n c ⟨args ++ Q0 (nt - args.length) AV.un, h⟩ (fin rs) := by
 simp only [runFn,ek]
 cases evalCode call n c ⟨args ++ Q0 (nt - args.length) AV.un, h⟩ with
 | none => rfl
 | some p =>
  obtain ⟨o, s1⟩ := p
  cases o <;> rfl
theorem rk_guard (d : Option Nat) (op : AOp) (j : Nat) (b : Bool) (r : List AOper) (t : List AV) (h : AHeap) (K : St → Option R) :
  rk call (⟨d, op, some (j, b)⟩ :: r) ⟨t, h⟩ K = gd (t.getD j AV.un) b (rk call (⟨d, op, none⟩ :: r) ⟨t, h⟩ K) (rk call r ⟨put t d AV.un, h⟩ K) := by
 simp only [rk,runOps,runOp,wanted,gd,List.getD_eq_getElem?_getD]
 cases hj : t[j]? with
 | none => rfl
 | some v =>
  cases v <;> try rfl
  rename_i c
  cases c <;> cases b <;> rfl
theorem rk_pure {o : AOp} {f : List AV → AHeap → Option AV} (ho : ∀ t h, aop h t o = (f t h).map fun v => .v v h) (d : Option Nat) (r : List AOper) (t : List AV) (h : AHeap) (K : St → Option R) :
  rk call (⟨d, o, none⟩ :: r) ⟨t, h⟩ K = (f t h).elim none fun v => rk call r ⟨put t d v, h⟩ K := by
 simp only [rk,runOps,runOp,wanted,ho]
 cases f t h <;> rfl
variable (d : Option Nat) (r : List AOper) (t : List AV) (h : AHeap) (K : St → Option R)
theorem rk_pick (c a b : AX) : rk call (⟨d, .pick c a b, none⟩ :: r) ⟨t, h⟩ K = cd (c.ev t) (rk call r ⟨put t d (a.ev t), h⟩ K) (rk call r ⟨put t d (b.ev t), h⟩ K) := by
 simp only [rk,runOps,runOp,wanted,aop,cd]
 generalize c.ev t = v
 cases v <;> try rfl
 rename_i b
 cases b <;> rfl
theorem rk_box (sz : Nat) (x : AX) : rk call (⟨d, .box sz x, none⟩ :: r) ⟨t, h⟩ K = if (cellsOf (x.ev t)).length = sz then rk call r ⟨put t d (.ptr h.length 0 0 0), h ++ [.arr 0 sz true [cellsOf (x.ev t)]]⟩ K else none := by
 simp only [rk,runOps,runOp,wanted,aop]
 by_cases h1 : (cellsOf (x.ev t)).length = sz
 ·rw [if_pos h1, if_pos h1]
 ·rw [if_neg h1, if_neg h1]; rfl
theorem rk_load (m : Nat) (g : Bool) (a : AX) : rk call (⟨d, .load m g a, none⟩ :: r) ⟨t, h⟩ K = (aload h m g (a.ev t)).elim none fun v => rk call r ⟨put t d v, h⟩ K := rk_pure (f := fun t h => aload h m g (a.ev t)) (fun _ _ => rfl) d r t h K
theorem rk_store (m : Nat) (a x : AX) : rk call (⟨d, .store m a x, none⟩ :: r) ⟨t, h⟩ K = (astore h m (a.ev t) (x.ev t)).elim none fun h => rk call r ⟨put t d AV.un, h⟩ K := by
 simp only [rk,runOps,runOp,wanted,aop]
 cases astore h m (a.ev t) (x.ev t) <;> rfl
theorem rk_bin (op : BinOp) (q : EqK) (x y : AX) : rk call (⟨d, .bin op q x y, none⟩ :: r) ⟨t, h⟩ K = (abin op q (x.ev t) (y.ev t)).elim none fun v => rk call r ⟨put t d v, h⟩ K := rk_pure (f := fun t h => abin op q (x.ev t) (y.ev t)) (fun _ _ => rfl) d r t h K
theorem rk_un (op : UnOp) (x : AX) : rk call (⟨d, .un op x, none⟩ :: r) ⟨t, h⟩ K = (aun op (x.ev t)).elim none fun v => rk call r ⟨put t d v, h⟩ K := rk_pure (f := fun t h => aun op (x.ev t)) (fun _ _ => rfl) d r t h K
def amk (h : AHeap) (sz bytes : Nat) (z : List AV) : AV → AV → Option (AV × AHeap)
 | .int _ l, .int _ c => if 0 ≤ l ∧ l ≤ c ∧ c * (bytes + 1) ≤ 70368744177664 then some (.hsl h.length 0 0 l.toNat none, h ++ [.arr 0 sz true (Q0 c.toNat z)]) else none
 | _, _ => none
theorem rk_mkSlice (sz bytes : Nat) (z : List AV) (l c : AX) : rk call (⟨d, .mkSlice sz bytes z l c, none⟩ :: r) ⟨t, h⟩ K = (amk h sz bytes z (l.ev t) (c.ev t)).elim none fun p => rk call r ⟨put t d p.1, p.2⟩ K := by
 simp only [rk,runOps,runOp,wanted,aop,amk]
 generalize l.ev t = u
 generalize c.ev t = v
 cases u <;> try rfl
 cases v <;> try rfl
 rename_i k1 a k2 b
 simp only
 by_cases h1 : 0 ≤ a ∧ a ≤ b ∧ b * (bytes + 1) ≤ 70368744177664
 ·rw [if_pos h1, if_pos h1]; rfl
 ·rw [if_neg h1, if_neg h1]; rfl
theorem rk_slice (sz : Nat) (x : AX) (lo hi mx : Option AX) : rk call (⟨d, .slice sz x lo hi mx, none⟩ :: r) ⟨t, h⟩ K = (aslice h sz (x.ev t) (lo.map (AX.ev t)) (hi.map (AX.ev t)) (mx.map (AX.ev t))).elim none fun v => rk call r ⟨put t d v, h⟩ K :=
 rk_pure (f := fun t h => aslice h sz (x.ev t) (lo.map (AX.ev t)) (hi.map (AX.ev t)) (mx.map (AX.ev t))) (fun _ _ => rfl) d r t h K
theorem rk_fieldAddr (off : Nat) (x : AX) : rk call (⟨d, .fieldAddr off x, none⟩ :: r) ⟨t, h⟩ K = (aaddr h (x.ev t) off).elim none fun v => rk call r ⟨put t d v, h⟩ K := rk_pure (f := fun t h => aaddr h (x.ev t) off) (fun _ _ => rfl) d r t h K
def anil (h : AHeap) : AV → Option AV
 | .fn (.func f) a b => some (.fn (.func f) a b)
 | x => aaddr h x 0
theorem rk_nilCheck (x : AX) : rk call (⟨d, .nilCheck x, none⟩ :: r) ⟨t, h⟩ K = (anil h (x.ev t)).elim none fun v => rk call r ⟨put t d v, h⟩ K :=
 rk_pure (f := fun t h => anil h (x.ev t)) (fun t h => by
  simp only [aop,anil]
  generalize x.ev t = v
  cases v <;> try rfl
  rename_i f a b
  cases f <;> rfl) d r t h K
theorem rk_indexAddr (sz : Nat) (x i : AX) : rk call (⟨d, .indexAddr sz x i, none⟩ :: r) ⟨t, h⟩ K = (aindexAddr h sz (x.ev t) (i.ev t)).elim none fun v => rk call r ⟨put t d v, h⟩ K := rk_pure (f := fun t h => aindexAddr h sz (x.ev t) (i.ev t)) (fun _ _ => rfl) d r t h K
def alook (h : AHeap) (q : Sc) (z : AV) (ok : Bool) (m k : AV) : Option AV :=
 match getMap h m with
 | some l => if keyOk q k then (afind q k l 0).map fun r => lookRes ok z r else none
 | none => none
theorem rk_lookup (q : Sc) (z : AV) (ok : Bool) (m k : AX) : rk call (⟨d, .lookup q z ok m k, none⟩ :: r) ⟨t, h⟩ K = (alook h q z ok (m.ev t) (k.ev t)).elim none fun v => rk call r ⟨put t d v, h⟩ K :=
 rk_pure (f := fun t h => alook h q z ok (m.ev t) (k.ev t)) (fun t h => by
  simp only [aop,alook]
  generalize k.ev t = kv
  cases getMap h (m.ev t) with
  | none => rfl
  | some l =>
   simp only
   by_cases h1 : keyOk q kv = true
   ·rw [if_pos h1, if_pos h1]; cases afind q kv l 0 <;> rfl
   ·rw [if_neg h1, if_neg h1]; rfl) d r t h K
def amapUpd (h : AHeap) (q : Sc) (m k x : AV) : Option AHeap :=
 match m with
 | .map i =>
  match h[i]? with
  | some (.map l) => if keyOk q k then (afind q k l 0).map fun r => h.set i (.map (updMap l k x r)) else none
  | _ => none
 | _ => none
theorem rk_mapUpdate (q : Sc) (m k x : AX) : rk call (⟨d, .mapUpdate q m k x, none⟩ :: r) ⟨t, h⟩ K = (amapUpd h q (m.ev t) (k.ev t) (x.ev t)).elim none fun h => rk call r ⟨put t d AV.un, h⟩ K := by
 simp only [rk,runOps,runOp,wanted,aop,amapUpd]
 generalize m.ev t = mv
 generalize k.ev t = kv
 cases mv <;> try rfl
 rename_i i
 simp only
 cases h[i]? with
 | none => rfl
 | some ob =>
  cases ob <;> try rfl
  rename_i l
  simp only
  by_cases h1 : keyOk q kv = true
  ·rw [if_pos h1, if_pos h1]; cases afind q kv l 0 <;> rfl
  ·rw [if_neg h1, if_neg h1]; rfl
def aext (i : Nat) : AV → Option AV
 | .tup l => l[i]?
 | _ => none
theorem rk_extract (x : AX) (i : Nat) : rk call (⟨d, .extract x i, none⟩ :: r) ⟨t, h⟩ K = (aext i (x.ev t)).elim none fun v => rk call r ⟨put t d v, h⟩ K :=
 rk_pure (f := fun t h => aext i (x.ev t)) (fun t h => by simp only [aop,aext]; generalize x.ev t = v; cases v <;> rfl) d r t h K
theorem rk_len (q : LenK) (x : AX) : rk call (⟨d, .len q x, none⟩ :: r) ⟨t, h⟩ K = (alen h q (x.ev t)).elim none fun v => rk call r ⟨put t d v, h⟩ K := rk_pure (f := fun t h => alen h q (x.ev t)) (fun _ _ => rfl) d r t h K
theorem rk_append (sz bytes : Nat) (s x : AX) : rk call (⟨d, .append sz bytes s x, none⟩ :: r) ⟨t, h⟩ K = (elemsOf h sz (x.ev t)).elim none fun xs => (aappend h sz bytes (s.ev t) xs).elim none fun p => rk call r ⟨put t d p.1, p.2⟩ K := by
 simp only [rk,runOps,runOp,wanted,aop]
 cases elemsOf h sz (x.ev t) with
 | none => rfl
 | some xs =>
  simp only [Option.elim_some]
  cases aappend h sz bytes (s.ev t) xs <;> rfl
def ammx (mx : Bool) : List AV → Option AV
 | .int k n :: r => amm mx (.int k n) r
 | _ => none
theorem rk_minmax (mx : Bool) (xs : List AX) : rk call (⟨d, .minmax mx xs, none⟩ :: r) ⟨t, h⟩ K = (ammx mx (avs t xs)).elim none fun v => rk call r ⟨put t d v, h⟩ K :=
 rk_pure (f := fun t h => ammx mx (avs t xs)) (fun t h => by
  simp only [aop,ammx]
  generalize avs t xs = l
  cases l with
  | nil => rfl
  | cons a b => cases a <;> rfl) d r t h K
theorem rk_build (z : List AV) (parts : List (Nat × Nat × AX)) : rk call (⟨d, .build z parts, none⟩ :: r) ⟨t, h⟩ K = (fillCells z (parts.map fun p => (p.1, p.2.1, p.2.2.ev t))).elim none fun cs => rk call r ⟨put t d (.agg cs), h⟩ K := by
 simp only [rk,runOps,runOp,wanted,aop]
 cases fillCells z (parts.map fun p => (p.1, p.2.1, p.2.2.ev t)) <;> rfl
def abs0 (h : AHeap) (heap : Bool) (sz len : Nat) (z : List AV) (parts : List (Nat × AV)) : Option (AV × AHeap) :=
 if z.length = sz ∧ len * sz ≤ 16777216 then
  (fillCells ((Q0 len z).flatten) (flatParts sz parts)).map fun l =>
   if !heap && l.all pure1 then (.vsl true (chop sz len l), h) else (.hsl h.length 0 0 len none, h ++ [.arr 0 sz true (chop sz len l)])
 else none
theorem rk_buildSlice (heap : Bool) (sz len : Nat) (z : List AV) (parts : List (Nat × AX)) : rk call (⟨d, .buildSlice heap sz len z parts, none⟩ :: r) ⟨t, h⟩ K = (abs0 h heap sz len z (parts.map fun p => (p.1, p.2.ev t))).elim none fun p => rk call r ⟨put t d p.1, p.2⟩ K := by
 simp only [rk,runOps,runOp,wanted,aop,abs0]
 by_cases h1 : z.length = sz ∧ len * sz ≤ 16777216
 ·rw [if_pos h1, if_pos h1]
  cases fillCells ((Q0 len z).flatten) (flatParts sz (parts.map fun p => (p.1, p.2.ev t))) with
  | none => rfl
  | some l =>
   simp only [Option.map_some,Option.elim_some]
   by_cases h2 : (!heap && l.all pure1) = true
   ·rw [if_pos h2, if_pos h2]
   ·rw [if_neg h2, if_neg h2]
 ·rw [if_neg h1, if_neg h1]; rfl
def ck (call : CallT) (h : AHeap) (f : AV) (args : List AV) (K : AV → AHeap → Option R) : Option R :=
 match f with
 | .fn (.func g) first caps => (call (.func g) (first ++ args ++ caps) h).elim none fun p => K p.1 p.2
 | .fn (.yield l) _ _ => (call (.yield l) args h).elim none fun p => K p.1 p.2
 | _ => none
theorem rk_call (f : AX) (args : List AX) : rk call (⟨d, .call f args, none⟩ :: r) ⟨t, h⟩ K = ck call h (f.ev t) (avs t args) fun v h => rk call r ⟨put t d v, h⟩ K := by
 simp only [rk,runOps,runOp,wanted,aop,ck]
 generalize f.ev t = v
 cases v <;> try rfl
 rename_i g first caps
 cases g <;> try rfl
 ·rename_i g
  simp only
  generalize call (.func g) (first ++ avs t args ++ caps) h = q
  cases q <;> rfl
 ·rename_i g
  simp only
  generalize call (.yield g) (avs t args) h = q
  cases q <;> rfl
inductive Fr where
 | sq (b : ACode)
 | bk (id : Nat)
def kr (call : CallT) (n : Nat) (F : Out → St → Option R) : List Fr → Out → St → Option R
 | [], o, s => F o s
 | .sq b :: fs, o, s => sq o (ek call n b s (kr call n F fs)) (kr call n F fs o s)
 | .bk id :: fs, o, s => bk id o fun o => kr call n F fs o s
def eq1 (call : CallT) (n : Nat) (F : Out → St → Option R) (c : ACode) (s : St) (fs : List Fr) : Option R := ek call n c s (kr call n F fs)
def eq2 (call : CallT) (n : Nat) (F : Out → St → Option R) (l : List AOper) (t : List AV) (h : AHeap) (fs : List Fr) : Option R := rk call l ⟨t, h⟩ (kr call n F fs .normal)
variable (F : Out → St → Option R) (fs : List Fr)
theorem Zaj (o : Out) (s : St) : kr call n F [] o s = F o s := rfl
theorem Zak (b : ACode) (s : St) : kr call n F (.sq b :: fs) .normal s = eq1 call n F b s fs := rfl
theorem Zal (b : ACode) (j : Nat) (s : St) : kr call n F (.sq b :: fs) (.exit j) s = kr call n F fs (.exit j) s := rfl
theorem Zam (b : ACode) (s : St) : kr call n F (.sq b :: fs) .ret s = kr call n F fs .ret s := rfl
theorem Zan (id : Nat) (s : St) : kr call n F (.bk id :: fs) .normal s = kr call n F fs .normal s := rfl
theorem Zao (id : Nat) (s : St) : kr call n F (.bk id :: fs) .ret s = kr call n F fs .ret s := rfl
theorem Zap (id : Nat) (s : St) : kr call n F (.bk id :: fs) (.exit id) s = kr call n F fs .normal s := by simp [kr, bk]
def dcd (call : CallT) (n : Nat) (F : Out → St → Option R) (v : AV) (a b : ACode) (t : List AV) (h : AHeap) (fs : List Fr) : Option R := cd v (eq1 call n F a ⟨t, h⟩ fs) (eq1 call n F b ⟨t, h⟩ fs)
theorem Zar (a b : ACode) (t : List AV) (h : AHeap) : dcd call n F (.bool true) a b t h fs = eq1 call n F a ⟨t, h⟩ fs := rfl
theorem Zas (a b : ACode) (t : List AV) (h : AHeap) : dcd call n F (.bool false) a b t h fs = eq1 call n F b ⟨t, h⟩ fs := rfl
def dlp (call : CallT) (n : Nat) (F : Out → St → Option R) (o : Option (Out × St)) (fs : List Fr) : Option R := o.bind fun p => kr call n F fs p.1 p.2
theorem Zat (o : Out) (s : St) : dlp call n F (some (o, s)) fs = kr call n F fs o s := rfl
theorem Zaa (s : St) : eq1 call n F .skip s fs = kr call n F fs .normal s := rfl
theorem Zab (l : List AOper) (t : List AV) (h : AHeap) : eq1 call n F (.ops l) ⟨t, h⟩ fs = eq2 call n F l t h fs := ek_ops _ _ _
theorem Zac (a b : ACode) (s : St) : eq1 call n F (.seq a b) s fs = eq1 call n F a s (.sq b :: fs) := by
 rw [eq1, ek_seq]; rfl
theorem Zad (c : AX) (a b : ACode) (t : List AV) (h : AHeap) : eq1 call n F (.cond c a b) ⟨t, h⟩ fs = dcd call n F (c.ev t) a b t h fs := by
 rw [eq1, ek_cond]; rfl
theorem Zae (id : Nat) (c : ACode) (s : St) : eq1 call n F (.block id c) s fs = eq1 call n F c s (.bk id :: fs) := by
 rw [eq1, ek_block]; rfl
theorem Zaf (c : ACode) (s : St) : eq1 call n F (.loop c) s fs = dlp call n F (loopN (evalCode call n c) n s) fs := rfl
theorem Zag (l : List Bool) (t : List AV) (h : AHeap) : eq1 call n F (.kill l) ⟨t, h⟩ fs = kr call n F fs .normal ⟨killT l t, h⟩ := rfl
theorem Zah (id : Nat) (s : St) : eq1 call n F (.exit id) s fs = kr call n F fs (.exit id) s := rfl
theorem Zai (s : St) : eq1 call n F .ret s fs = kr call n F fs .ret s := rfl
def lpF (f : St → Option (Out × St)) (m : Nat) (o : Out) (s : St) : Option (Out × St) := sq o (loopN f m s) (some (o, s))
theorem Zau (f : St → Option (Out × St)) (m : Nat) (s : St) : lpF f m .normal s = loopN f m s := rfl
theorem Zav (f : St → Option (Out × St)) (m j : Nat) (s : St) : lpF f m (.exit j) s = some (.exit j, s) := rfl
theorem Zaw (f : St → Option (Out × St)) (m : Nat) (s : St) : lpF f m .ret s = some (.ret, s) := rfl
theorem loop_e (c : ACode) (m : Nat) (s : St) : loopN (evalCode call n c) (m + 1) s = eq1 call n (lpF (evalCode call n c) m) c s [] := loop_ek c m s
def evF (o : Out) (s : St) : Option (Out × St) := some (o, s)
theorem Zax (o : Out) (s : St) : evF o s = some (o, s) := rfl
theorem eval_e (c : ACode) (s : St) : evalCode call n c s = eq1 call n evF c s [] := eval_ek c s
theorem run_e (nt : Nat) (rs : List ARes) (c : ACode) (args : List AV) (h : AHeap) : runFn call n ⟨nt, rs, c⟩ args h = eq1 call n (fin rs) c ⟨args ++ Q0 (nt - args.length) AV.un, h⟩ [] := run_ek _ _ _ _ _
def dv (call : CallT) (n : Nat) (F : Out → St → Option R) (o : Option AV) (d : Option Nat) (r : List AOper) (t : List AV) (h : AHeap) (fs : List Fr) : Option R := o.elim none fun v => eq2 call n F r (put t d v) h fs
theorem Zay (v : AV) (d : Option Nat) (r : List AOper) (t : List AV) (h : AHeap) : dv call n F (some v) d r t h fs = eq2 call n F r (put t d v) h fs := rfl
def dp (call : CallT) (n : Nat) (F : Out → St → Option R) (o : Option (AV × AHeap)) (d : Option Nat) (r : List AOper) (t : List AV) (fs : List Fr) : Option R := o.elim none fun p => eq2 call n F r (put t d p.1) p.2 fs
theorem Zaz (v : AV) (h : AHeap) (d : Option Nat) (r : List AOper) (t : List AV) : dp call n F (some (v, h)) d r t fs = eq2 call n F r (put t d v) h fs := rfl
def dh (call : CallT) (n : Nat) (F : Out → St → Option R) (o : Option AHeap) (d : Option Nat) (r : List AOper) (t : List AV) (fs : List Fr) : Option R := o.elim none fun h => eq2 call n F r (put t d AV.un) h fs
theorem Zba (h : AHeap) (d : Option Nat) (r : List AOper) (t : List AV) : dh call n F (some h) d r t fs = eq2 call n F r (put t d AV.un) h fs := rfl
def dg (call : CallT) (n : Nat) (F : Out → St → Option R) (v : AV) (b : Bool) (d : Option Nat) (op : AOp) (r : List AOper) (t : List AV) (h : AHeap) (fs : List Fr) : Option R := gd v b (eq2 call n F (⟨d, op, none⟩ :: r) t h fs) (eq2 call n F r (put t d AV.un) h fs)
theorem Zbb (d : Option Nat) (op : AOp) (r : List AOper) (t : List AV) (h : AHeap) : dg call n F (.bool true) true d op r t h fs = eq2 call n F (⟨d, op, none⟩ :: r) t h fs := rfl
theorem Zbc (d : Option Nat) (op : AOp) (r : List AOper) (t : List AV) (h : AHeap) : dg call n F (.bool false) false d op r t h fs = eq2 call n F (⟨d, op, none⟩ :: r) t h fs := rfl
theorem Zbd (d : Option Nat) (op : AOp) (r : List AOper) (t : List AV) (h : AHeap) : dg call n F (.bool true) false d op r t h fs = eq2 call n F r (put t d AV.un) h fs := rfl
theorem Zbe (d : Option Nat) (op : AOp) (r : List AOper) (t : List AV) (h : AHeap) : dg call n F (.bool false) true d op r t h fs = eq2 call n F r (put t d AV.un) h fs := rfl
theorem Zbf (b : Bool) (d : Option Nat) (op : AOp) (r : List AOper) (t : List AV) (h : AHeap) : dg call n F AV.un b d op r t h fs = eq2 call n F r (put t d AV.un) h fs := rfl
def dpk (call : CallT) (n : Nat) (F : Out → St → Option R) (c a b : AV) (d : Option Nat) (r : List AOper) (t : List AV) (h : AHeap) (fs : List Fr) : Option R := cd c (eq2 call n F r (put t d a) h fs) (eq2 call n F r (put t d b) h fs)
theorem Zbg (a b : AV) (d : Option Nat) (r : List AOper) (t : List AV) (h : AHeap) : dpk call n F (.bool true) a b d r t h fs = eq2 call n F r (put t d a) h fs := rfl
theorem Zbh (a b : AV) (d : Option Nat) (r : List AOper) (t : List AV) (h : AHeap) : dpk call n F (.bool false) a b d r t h fs = eq2 call n F r (put t d b) h fs := rfl
section
variable (d : Option Nat) (r : List AOper) (t : List AV) (h : AHeap)
theorem Zbi : eq2 call n F [] t h fs = kr call n F fs .normal ⟨t, h⟩ := rfl
theorem Zbj (op : AOp) (j : Nat) (b : Bool) : eq2 call n F (⟨d, op, some (j, b)⟩ :: r) t h fs = dg call n F (t.getD j AV.un) b d op r t h fs := rk_guard _ _ _ _ _ _ _ _
theorem Zbk (x : AX) : eq2 call n F (⟨d, .mv x, none⟩ :: r) t h fs = eq2 call n F r (put t d (x.ev t)) h fs := rfl
theorem Zbl (c a b : AX) : eq2 call n F (⟨d, .pick c a b, none⟩ :: r) t h fs = dpk call n F (c.ev t) (a.ev t) (b.ev t) d r t h fs := rk_pick _ _ _ _ _ _ _ _
theorem Zbm (z : List AV) : eq2 call n F (⟨d, .alloc z, none⟩ :: r) t h fs = eq2 call n F r (put t d (.ptr h.length 0 0 0)) (h ++ [.arr 0 z.length true [z]]) fs := rfl
def Zcs (h : AHeap) (sz : Nat) (x : AV) : Option (AV × AHeap) := if (cellsOf x).length = sz then some (.ptr h.length 0 0 0, h ++ [.arr 0 sz true [cellsOf x]]) else none
theorem Zbn (sz : Nat) (x : AX) : eq2 call n F (⟨d, .box sz x, none⟩ :: r) t h fs = dp call n F (Zcs h sz (x.ev t)) d r t fs := by
 rw [eq2, rk_box, dp, Zcs]
 by_cases h1 : (cellsOf (x.ev t)).length = sz
 ·rw [if_pos h1, if_pos h1]; rfl
 ·rw [if_neg h1, if_neg h1]; rfl
theorem Zbo (m : Nat) (g : Bool) (a : AX) : eq2 call n F (⟨d, .load m g a, none⟩ :: r) t h fs = dv call n F (aload h m g (a.ev t)) d r t h fs := rk_load _ _ _ _ _ _ _ _
theorem Zbp (m : Nat) (a x : AX) : eq2 call n F (⟨d, .store m a x, none⟩ :: r) t h fs = dh call n F (astore h m (a.ev t) (x.ev t)) d r t fs := rk_store _ _ _ _ _ _ _ _
theorem Zbq (op : BinOp) (q : EqK) (x y : AX) : eq2 call n F (⟨d, .bin op q x y, none⟩ :: r) t h fs = dv call n F (abin op q (x.ev t) (y.ev t)) d r t h fs := rk_bin _ _ _ _ _ _ _ _ _
theorem Zbr (op : UnOp) (x : AX) : eq2 call n F (⟨d, .un op x, none⟩ :: r) t h fs = dv call n F (aun op (x.ev t)) d r t h fs := rk_un _ _ _ _ _ _ _
theorem Zbt (f : Fn) (a b : List AX) : eq2 call n F (⟨d, .mkFunc f a b, none⟩ :: r) t h fs = eq2 call n F r (put t d (.fn f (avs t a) (avs t b))) h fs := rfl
theorem Zbu : eq2 call n F (⟨d, .mkMap, none⟩ :: r) t h fs = eq2 call n F r (put t d (.map h.length)) (h ++ [.map []]) fs := rfl
theorem Zbv (sz bytes : Nat) (z : List AV) (l c : AX) : eq2 call n F (⟨d, .mkSlice sz bytes z l c, none⟩ :: r) t h fs = dp call n F (amk h sz bytes z (l.ev t) (c.ev t)) d r t fs := rk_mkSlice _ _ _ _ _ _ _ _ _ _
theorem Zbw (sz : Nat) (x : AX) (lo hi mx : Option AX) : eq2 call n F (⟨d, .slice sz x lo hi mx, none⟩ :: r) t h fs = dv call n F (aslice h sz (x.ev t) (lo.map (AX.ev t)) (hi.map (AX.ev t)) (mx.map (AX.ev t))) d r t h fs := rk_slice _ _ _ _ _ _ _ _ _ _
theorem Zby (off : Nat) (x : AX) : eq2 call n F (⟨d, .fieldAddr off x, none⟩ :: r) t h fs = dv call n F (aaddr h (x.ev t) off) d r t h fs := rk_fieldAddr _ _ _ _ _ _ _
theorem Zbz (x : AX) : eq2 call n F (⟨d, .nilCheck x, none⟩ :: r) t h fs = dv call n F (anil h (x.ev t)) d r t h fs := rk_nilCheck _ _ _ _ _ _
theorem Zcb (sz : Nat) (x i : AX) : eq2 call n F (⟨d, .indexAddr sz x i, none⟩ :: r) t h fs = dv call n F (aindexAddr h sz (x.ev t) (i.ev t)) d r t h fs := rk_indexAddr _ _ _ _ _ _ _ _
theorem Zcd (q : Sc) (z : AV) (ok : Bool) (m k : AX) : eq2 call n F (⟨d, .lookup q z ok m k, none⟩ :: r) t h fs = dv call n F (alook h q z ok (m.ev t) (k.ev t)) d r t h fs := rk_lookup _ _ _ _ _ _ _ _ _ _
theorem Zce (q : Sc) (m k x : AX) : eq2 call n F (⟨d, .mapUpdate q m k x, none⟩ :: r) t h fs = dh call n F (amapUpd h q (m.ev t) (k.ev t) (x.ev t)) d r t fs := rk_mapUpdate _ _ _ _ _ _ _ _ _
theorem Zcf (x : AX) (i : Nat) : eq2 call n F (⟨d, .extract x i, none⟩ :: r) t h fs = dv call n F (aext i (x.ev t)) d r t h fs := rk_extract _ _ _ _ _ _ _
theorem Zcg (q : LenK) (x : AX) : eq2 call n F (⟨d, .len q x, none⟩ :: r) t h fs = dv call n F (alen h q (x.ev t)) d r t h fs := rk_len _ _ _ _ _ _ _
def aapp (h : AHeap) (sz bytes : Nat) (s x : AV) : Option (AV × AHeap) := (elemsOf h sz x).elim none fun xs => aappend h sz bytes s xs
theorem Zci (sz bytes : Nat) (s x : AX) : eq2 call n F (⟨d, .append sz bytes s x, none⟩ :: r) t h fs = dp call n F (aapp h sz bytes (s.ev t) (x.ev t)) d r t fs := by
 rw [eq2, rk_append, dp, aapp]
 cases elemsOf h sz (x.ev t) <;> rfl
theorem Zcl (mx : Bool) (xs : List AX) : eq2 call n F (⟨d, .minmax mx xs, none⟩ :: r) t h fs = dv call n F (ammx mx (avs t xs)) d r t h fs := rk_minmax _ _ _ _ _ _ _
def evp (t : List AV) : List (Nat × Nat × AX) → List (Nat × Nat × AV)
 | [] => []
 | (a, b, x) :: l => (a, b, x.ev t) :: evp t l
theorem evp_eq (t : List AV) : ∀ l : List (Nat × Nat × AX), evp t l = l.map fun p => (p.1, p.2.1, p.2.2.ev t)
 | [] => rfl
 | (a, b, x) :: l => by simp [evp, evp_eq t l]
def afill (z : List AV) (l : List (Nat × Nat × AV)) : Option AV := (fillCells z l).map .agg
theorem Zcm (z : List AV) (parts : List (Nat × Nat × AX)) : eq2 call n F (⟨d, .build z parts, none⟩ :: r) t h fs = dv call n F (afill z (evp t parts)) d r t h fs := by
 rw [eq2, rk_build, dv, afill, evp_eq]
 cases fillCells z (parts.map fun p => (p.1, p.2.1, p.2.2.ev t)) <;> rfl
def ev2 (t : List AV) : List (Nat × AX) → List (Nat × AV)
 | [] => []
 | (a, x) :: l => (a, x.ev t) :: ev2 t l
theorem ev2_eq (t : List AV) : ∀ l : List (Nat × AX), ev2 t l = l.map fun p => (p.1, p.2.ev t)
 | [] => rfl
 | (a, x) :: l => by simp [ev2, ev2_eq t l]
theorem Zcn (heap : Bool) (sz len : Nat) (z : List AV) (parts : List (Nat × AX)) : eq2 call n F (⟨d, .buildSlice heap sz len z parts, none⟩ :: r) t h fs = dp call n F (abs0 h heap sz len z (ev2 t parts)) d r t fs := by
 rw [eq2, rk_buildSlice, dp, ev2_eq]; rfl
def dc (call : CallT) (n : Nat) (F : Out → St → Option R) (f : AV) (args : List AV) (d : Option Nat) (r : List AOper) (t : List AV) (h : AHeap) (fs : List Fr) : Option R := ck call h f args fun v h => eq2 call n F r (put t d v) h fs
theorem Zcq (g : FuncId) (first caps args : List AV) : dc call n F (.fn (.func g) first caps) args d r t h fs = dp call n F (call (.func g) (first ++ args ++ caps) h) d r t fs := rfl
theorem Zcr (l : Nat) (first caps args : List AV) : dc call n F (.fn (.yield l) first caps) args d r t h fs = dp call n F (call (.yield l) args h) d r t fs := rfl
theorem Zcp (f : AX) (args : List AX) : eq2 call n F (⟨d, .call f args, none⟩ :: r) t h fs = dc call n F (f.ev t) (avs t args) d r t h fs := rk_call _ _ _ _ _ _ _
end
end
theorem Zcv (t : List AV) (i : Nat) : AX.ev t (.t i) = t.getD i AV.un := rfl
theorem Zcw (t : List AV) (v : AV) : AX.ev t (.c v) = v := rfl
theorem Zcx (t : List AV) (d : Nat) (v : AV) : put t (some d) v = t.set d v := rfl
theorem Zcy (t : List AV) (v : AV) : put t none v = t := rfl
theorem Zcz (t : List AV) : avs t [] = [] := rfl
theorem Zda (t : List AV) (x : AX) (l : List AX) : avs t (x :: l) = x.ev t :: avs t l := rfl
theorem Zdb (l : List Bool) (v : AV) (t : List AV) : killT (true :: l) (v :: t) = v :: killT l t := rfl
theorem Zdc (l : List Bool) (v : AV) (t : List AV) : killT (false :: l) (v :: t) = .junk :: killT l t := rfl
theorem Zdd (t : List AV) : killT [] t = t := by cases t <;> rfl
end Go.Proofs.Ytkimloceaihplaa.Ai
