/- Values met in walks by rewriting; encodings of data. -/
import Derived.Test.YtgeedikghjcebaamAi26
namespace Go.Proofs.Ytgeedikghjcebaa.Ai
open Go
set_option linter.unusedVariables false
set_option linter.unusedSimpArgs false
theorem aSs {α:Type} [BEq α] [LawfulBEq α] [DecidableEq α] (a b:α):(a==b)=decide (a=b):=by
 by_cases h:a=b
 ·simp [h]
 ·simp [h]
section
variable (q:EqK) (k:IntKind) (a b:Int) (h:aA0)
theorem Zdi:aB6 .add q (.int k a) (.int k b)=some (.int k (k.wrap (a+b))):=by simp [aB6,aF0]
theorem Zdj:aB6 .sub q (.int k a) (.int k b)=some (.int k (k.wrap (a - b))):=by simp [aB6,aF0]
theorem Zdk:aB6 .mul q (.int k a) (.int k b)=some (.int k (k.wrap (a*b))):=by simp [aB6,aF0]
theorem Zdl:aB6 .lss q (.int k a) (.int k b)=some (.bool (decide (a < b))):=by simp [aB6,aF0]
theorem Zdm:aB6 .leq q (.int k a) (.int k b)=some (.bool (decide (a≤b))):=by simp [aB6,aF0]
theorem Zdn:aB6 .gtr q (.int k a) (.int k b)=some (.bool (decide (b < a))):=by simp [aB6,aF0]
theorem Zdo:aB6 .geq q (.int k a) (.int k b)=some (.bool (decide (b≤a))):=by simp [aB6,aF0]
theorem Zdp:aB6 .eql q (.int k a) (.int k b)=some (.bool (decide (a=b))):=by simp [aB6,aF0];rfl
theorem Zdq:aB6 .neq q (.int k a) (.int k b)=some (.bool (!decide (a=b))):=by simp [aB6,aF0];rfl
theorem Zdr (s t:List UInt8):aB6 .eql q (.str s) (.str t)=some (.bool (decide (s=t))):=by simp [aB6,aPr,aSs]
theorem Zdv (x:Bool):aun .not (.bool x)=some (.bool !x):=rfl
theorem Zdz (i v o n:Nat) (c:Option Nat):aBX h .slice (.hsl i v o n c)=some (.int .i64 n):=rfl
theorem Zeb (i v e o off:Nat):aEq h (.ptr i v e o) off=some (.ptr i v e (o+off)):=rfl
theorem Zed (x:AV):aEn false [x]=some x:=rfl
theorem Zee (l:List AV):aEn true l=some (.agg l):=rfl
theorem Zef (l:List AV):cellsOf (.agg l)=l:=rfl
theorem Zeq (l:List AV) (i:Nat):aNO i (.tup l)=l[i]?:=rfl
theorem aB5 (n i v e o:Nat) (g:Bool) (sz:Nat) (x:Bool) (l:List (List AV)) (c:List AV) (hg:h[i]?=some (.arr v sz x l)) (he:l[e]?=some c):aAb h n g (.ptr i v e o)=(part c o n).bind (aEn g):=by
 simp [aAb,aAM,aAk,hg,he]
theorem aKh (n i v e o:Nat) (y:AV) (sz:Nat) (x:Bool) (l:List (List AV)) (c:List AV) (hg:h[i]?=some (.arr v sz x l)) (he:l[e]?=some c) (h1:(cellsOf y).length=n) (h2:o+n≤c.length) (h3:(cellsOf y).all aAp=true) :
  aAB h n (.ptr i v e o) y=some (h.set i (.arr v sz x (l.set e (aAv c o (cellsOf y))))):=by
 simp only [List.all_eq_true] at h3
 simp [aAB,aAk,hg,he,h1,h2]
 exact h3
end
def eI (n:Int):List AV:=[.int .i64 n]
def eS (s:List UInt8):List AV:=[.str s]
def eIs (l:List Int):List (List AV):=l.map eI
theorem aQ7 {α:Type} (f:α→List AV) (h:aA0) (sz:Nat) (e:Bool) (l:List α) (k:IntKind) (j:Nat) (hj:j < l.length) (hs:(f l[j]).length=sz):aAN h sz (.vsl e (l.map f)) (.int k j)=some (.vptr (f l[j]) 0):=by
 simp [aAN,hj,hs]
theorem aSW (h:aA0) (e:Bool) (l:List Int) (k:IntKind) (j:Nat) (hj:j < l.length):aAN h 1 (.vsl e (eIs l)) (.int k j)=some (.vptr (eI l[j]) 0):=aQ7 eI h 1 e l k j hj rfl
theorem Zet (l:List Int):(eIs l).length=l.length:=List.length_map ..
theorem Zer (h:aA0) (n:Int):aAb h 1 false (.vptr (eI n) 0)=some (.int .i64 n):=rfl
theorem w64 {n:Int} (h0 : -9223372036854775808≤n) (h1:n≤9223372036854775807):IntKind.i64.wrap n=n:=by rw [IntKind.wrap_i64];omega
theorem aC7 {n:Nat} (h1:n < 9223372036854775807):IntKind.i64.wrap ((n:Int)+1)=((n+1:Nat):Int):=by rw [w64 (by omega) (by omega)];omega
theorem eqB {R:Type} {call:aA4} {n:Nat} {F:Out→St→Option R} {s:St} {fs:List Fr} {b c:ACode} (e:b=c):eq1 call n F b s fs=eq1 call n F c s fs:=by rw [e]
theorem aAt {call:aA4} {n:Nat} {args:List AV} {h:aA0} {a:AFn} {nt:Nat} {rs:List ARes} {c:ACode} (e:a=⟨nt,rs,c⟩):aB8 call n a args h=eq1 call n (fin rs) c ⟨args++List.replicate (nt - args.length) AV.un,h⟩ []:=by rw [e,aTF]
end Go.Proofs.Ytgeedikghjcebaa.Ai
