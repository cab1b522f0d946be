/- Values met in walks by rewriting; encodings of data. -/
import Derived.Test.YtkimloceaihplaamAi26
namespace Go.Proofs.Ytkimloceaihplaa.Ai
open Go
set_option linter.unusedVariables false
set_option linter.unusedSimpArgs false
theorem beq_dec {α : Type} [BEq α] [LawfulBEq α] [DecidableEq α] (a b : α) : (a == b) = decide (a = b) := by
 by_cases h : a = b
 ·simp [h]
 ·simp [h]
section
variable (q : EqK) (k : IntKind) (a b : Int) (h : AHeap)
theorem Zde : abin .add q (.int k a) (.int k b) = some (.int k (k.wrap (a + b))) := by simp [abin, aint]
theorem Zdf : abin .sub q (.int k a) (.int k b) = some (.int k (k.wrap (a - b))) := by simp [abin, aint]
theorem Zdh : abin .lss q (.int k a) (.int k b) = some (.bool (decide (a < b))) := by simp [abin, aint]
theorem Zdi : abin .leq q (.int k a) (.int k b) = some (.bool (decide (a ≤ b))) := by simp [abin, aint]
theorem Zdj : abin .gtr q (.int k a) (.int k b) = some (.bool (decide (b < a))) := by simp [abin, aint]
theorem Zdk : abin .geq q (.int k a) (.int k b) = some (.bool (decide (b ≤ a))) := by simp [abin, aint]
theorem Zdl : abin .eql q (.int k a) (.int k b) = some (.bool (decide (a = b))) := by simp [abin, aint]; rfl
theorem Zdm : abin .neq q (.int k a) (.int k b) = some (.bool (!decide (a = b))) := by simp [abin, aint]; rfl
theorem Zdn (s t : List UInt8) : abin .eql q (.str s) (.str t) = some (.bool (decide (s = t))) := by simp [abin, astr, beq_dec]
theorem Zdr (x : Bool) : aun .not (.bool x) = some (.bool !x) := rfl
theorem Zds : aun .neg (.int k a) = some (.int k (k.wrap (-a))) := by simp [aun]
theorem Zdt (e : Bool) (l : List (List AV)) : alen h .slice (.vsl e l) = some (.int .i64 l.length) := rfl
theorem Zdv (i v o n : Nat) (c : Option Nat) : alen h .slice (.hsl i v o n c) = some (.int .i64 n) := rfl
theorem Zdx (i v e o off : Nat) : aaddr h (.ptr i v e o) off = some (.ptr i v e (o + off)) := rfl
theorem Zdy (cs : List AV) (o off : Nat) : aaddr h (.vptr cs o) off = some (.vptr cs (o + off)) := rfl
theorem Zdz (x : AV) : packV false [x] = some x := rfl
theorem Zea (l : List AV) : packV true l = some (.agg l) := rfl
theorem Zeb (l : List AV) : cellsOf (.agg l) = l := rfl
theorem Zec : cellsOf (.int k a) = [.int k a] := rfl
theorem Zed (b : Bool) : cellsOf (.bool b) = [.bool b] := rfl
theorem Zef (e : Bool) (l : List (List AV)) : cellsOf (.vsl e l) = [.vsl e l] := rfl
theorem Zeg (i v o n : Nat) (c : Option Nat) : cellsOf (.hsl i v o n c) = [.hsl i v o n c] := rfl
theorem Zeh : cellsOf .nilS = [.nilS] := rfl
theorem Zei (f : Fn) (x y : List AV) : cellsOf (.fn f x y) = [.fn f x y] := rfl
theorem Zej (i v e o : Nat) : cellsOf (.ptr i v e o) = [.ptr i v e o] := rfl
theorem Zem (l : List AV) (i : Nat) : aext i (.tup l) = l[i]? := rfl
theorem ld_v (n o : Nat) (g : Bool) (cs : List AV) : aload h n g (.vptr cs o) = (part cs o n).bind (packV g) := rfl
theorem ld_p (n i v e o : Nat) (g : Bool) (sz : Nat) (x : Bool) (l : List (List AV)) (c : List AV) (hg : h[i]? = some (.arr v sz x l)) (he : l[e]? = some c) : aload h n g (.ptr i v e o) = (part c o n).bind (packV g) := by
 simp [aload, acells, getArr, hg, he]
theorem st_p (n i v e o : Nat) (y : AV) (sz : Nat) (x : Bool) (l : List (List AV)) (c : List AV) (hg : h[i]? = some (.arr v sz x l)) (he : l[e]? = some c) (h1 : (cellsOf y).length = n) (h2 : o + n ≤ c.length) (h3 : (cellsOf y).all cellOk = true) :
  astore h n (.ptr i v e o) y = some (h.set i (.arr v sz x (l.set e (putCells c o (cellsOf y))))) := by
 simp only [List.all_eq_true] at h3
 simp [astore, getArr, hg, he, h1, h2]
 exact h3
end
def eI (n : Int) : List AV := [.int .i64 n]
def eS (s : List UInt8) : List AV := [.str s]
def eIs (l : List Int) : List (List AV) := l.map eI
def eSs (l : List (List UInt8)) : List (List AV) := l.map eS
theorem ix_map {α : Type} (f : α → List AV) (h : AHeap) (sz : Nat) (e : Bool) (l : List α) (k : IntKind) (j : Nat) (hj : j < l.length) (hs : (f l[j]).length = sz) : aindexAddr h sz (.vsl e (l.map f)) (.int k j) = some (.vptr (f l[j]) 0) := by
 simp [aindexAddr, hj, hs]
theorem ix_eIs (h : AHeap) (e : Bool) (l : List Int) (k : IntKind) (j : Nat) (hj : j < l.length) : aindexAddr h 1 (.vsl e (eIs l)) (.int k j) = some (.vptr (eI l[j]) 0) := ix_map eI h 1 e l k j hj rfl
theorem ix_eSs (h : AHeap) (e : Bool) (l : List (List UInt8)) (k : IntKind) (j : Nat) (hj : j < l.length) : aindexAddr h 1 (.vsl e (eSs l)) (.int k j) = some (.vptr (eS l[j]) 0) := ix_map eS h 1 e l k j hj rfl
theorem Zep (l : List Int) : (eIs l).length = l.length := List.length_map ..
theorem Zeq (l : List (List UInt8)) : (eSs l).length = l.length := List.length_map ..
theorem Zen (h : AHeap) (n : Int) : aload h 1 false (.vptr (eI n) 0) = some (.int .i64 n) := rfl
theorem Zeo (h : AHeap) (n : List UInt8) : aload h 1 false (.vptr (eS n) 0) = some (.str n) := rfl
theorem sl_lo (h : AHeap) (sz : Nat) (e : Bool) (l : List (List AV)) (k : IntKind) (a : Nat) (ha : a ≤ l.length) (hs : headSz sz (l.drop a) = true) : aslice h sz (.vsl e l) (some (.int k a)) none none = some (.vsl e (l.drop a)) := by
 have h1 : abounds l.length l.length (some (.int k a)) none none = some (a, l.length, none) := by
  simp [abounds, optInt, ha]
 simp [aslice, h1, exFlag, hs]
theorem headSz_map {α : Type} (f : α → List AV) (sz : Nat) (hf : ∀ x, (f x).length = sz) (l : List α) : headSz sz (l.map f) = true := by
 cases l with
 | nil => rfl
 | cons a l => simp [headSz, hf]
theorem maxLen_eq : maxLen = 9223372036854775807 := by decide +kernel
theorem w64 {n : Int} (h0 : -9223372036854775808 ≤ n) (h1 : n ≤ 9223372036854775807) : IntKind.i64.wrap n = n := by rw [IntKind.wrap_i64]; omega
theorem w64s {n : Nat} (h1 : n < 9223372036854775807) : IntKind.i64.wrap ((n : Int) + 1) = ((n + 1 : Nat) : Int) := by rw [w64 (by omega) (by omega)]; omega
theorem eqB {R : Type} {call : CallT} {n : Nat} {F : Out → St → Option R} {s : St} {fs : List Fr} {b c : ACode} (e : b = c) : eq1 call n F b s fs = eq1 call n F c s fs := by rw [e]
theorem run_c {call : CallT} {n : Nat} {args : List AV} {h : AHeap} {a : AFn} {nt : Nat} {rs : List ARes} {c : ACode} (e : a = ⟨nt, rs, c⟩) : runFn call n a args h = eq1 call n (fin rs) c ⟨args ++ List.replicate (nt - args.length) AV.un, h⟩ [] := by rw [e, run_e]
end Go.Proofs.Ytkimloceaihplaa.Ai
