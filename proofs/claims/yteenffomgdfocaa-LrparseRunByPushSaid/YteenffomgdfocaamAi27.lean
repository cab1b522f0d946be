/- Values met in walks by rewriting; encodings of data. -/
import Derived.Test.YteenffomgdfocaamAi26
namespace Go.Proofs.Yteenffomgdfocaa.Ai
open Go
set_option linter.unusedVariables false
set_option linter.unusedSimpArgs false
theorem aKj {α:Type} [BEq α] [LawfulBEq α] [DecidableEq α] (a b:α):(a==b)=decide (a=b):=by
 by_cases h:a=b
 ·simp [h]
 ·simp [h]
section
variable (q:EqK) (k:IntKind) (a b:Int) (h:aA0)
theorem Zdi:aBE .add q (.int k a) (.int k b)=some (.int k (k.wrap (a+b))):=by simp [aBE,aFY]
theorem Zdj:aBE .sub q (.int k a) (.int k b)=some (.int k (k.wrap (a - b))):=by simp [aBE,aFY]
theorem Zdl:aBE .lss q (.int k a) (.int k b)=some (.bool (decide (a < b))):=by simp [aBE,aFY]
theorem Zdm:aBE .leq q (.int k a) (.int k b)=some (.bool (decide (a≤b))):=by simp [aBE,aFY]
theorem Zdn:aBE .gtr q (.int k a) (.int k b)=some (.bool (decide (b < a))):=by simp [aBE,aFY]
theorem Zdo:aBE .geq q (.int k a) (.int k b)=some (.bool (decide (b≤a))):=by simp [aBE,aFY]
theorem Zdp:aBE .eql q (.int k a) (.int k b)=some (.bool (decide (a=b))):=by simp [aBE,aFY];rfl
theorem Zdq:aBE .neq q (.int k a) (.int k b)=some (.bool (!decide (a=b))):=by simp [aBE,aFY];rfl
theorem Zdr (s t:List UInt8):aBE .eql q (.str s) (.str t)=some (.bool (decide (s=t))):=by simp [aBE,aOw,aKj]
theorem Zdv (x:Bool):aun .not (.bool x)=some (.bool !x):=rfl
theorem Zdw:aun .neg (.int k a)=some (.int k (k.wrap (-a))):=by simp [aun]
theorem Zdx (e:Bool) (l:List (List AV)):aBt h .slice (.vsl e l)=some (.int .i64 l.length):=rfl
theorem Zeb (i v e o off:Nat):aCC h (.ptr i v e o) off=some (.ptr i v e (o+off)):=rfl
theorem Zec (cs:List AV) (o off:Nat):aCC h (.vptr cs o) off=some (.vptr cs (o+off)):=rfl
theorem Zed (x:AV):aCU false [x]=some x:=rfl
theorem Zee (l:List AV):aCU true l=some (.agg l):=rfl
theorem Zef (l:List AV):cellsOf (.agg l)=l:=rfl
theorem Zeh (b:Bool):cellsOf (.bool b)=[.bool b]:=rfl
theorem Zeq (l:List AV) (i:Nat):aMq i (.tup l)=l[i]?:=rfl
theorem aSS (n o:Nat) (g:Bool) (cs:List AV):aA2 h n g (.vptr cs o)=(part cs o n).bind (aCU g):=rfl
theorem aRY (n i v e o:Nat) (g:Bool) (sz:Nat) (x:Bool) (l:List (List AV)) (c:List AV) (hg:h[i]?=some (.arr v sz x l)) (he:l[e]?=some c):aA2 h n g (.ptr i v e o)=(part c o n).bind (aCU g):=by
 simp [aA2,aA4,aA3,hg,he]
theorem aSQ (n i v e o:Nat) (y:AV) (sz:Nat) (x:Bool) (l:List (List AV)) (c:List AV) (hg:h[i]?=some (.arr v sz x l)) (he:l[e]?=some c) (h1:(cellsOf y).length=n) (h2:o+n≤c.length) (h3:(cellsOf y).all aAn=true) :
  aAq h n (.ptr i v e o) y=some (h.set i (.arr v sz x (l.set e (aAm c o (cellsOf y))))):=by
 simp only [List.all_eq_true] at h3
 simp [aAq,aA3,hg,he,h1,h2]
 exact h3
end
def eI (n:Int):List AV:=[.int .i64 n]
def eS (s:List UInt8):List AV:=[.str s]
def eIs (l:List Int):List (List AV):=l.map eI
def eSs (l:List (List UInt8)):List (List AV):=l.map eS
theorem aBg {α:Type} (f:α→List AV) (h:aA0) (sz:Nat) (e:Bool) (l:List α) (k:IntKind) (j:Nat) (hj:j < l.length) (hs:(f l[j]).length=sz):aAs h sz (.vsl e (l.map f)) (.int k j)=some (.vptr (f l[j]) 0):=by
 simp [aAs,hj,hs]
theorem aCa (h:aA0) (e:Bool) (l:List Int) (k:IntKind) (j:Nat) (hj:j < l.length):aAs h 1 (.vsl e (eIs l)) (.int k j)=some (.vptr (eI l[j]) 0):=aBg eI h 1 e l k j hj rfl
theorem aHC (h:aA0) (e:Bool) (l:List (List UInt8)) (k:IntKind) (j:Nat) (hj:j < l.length):aAs h 1 (.vsl e (eSs l)) (.int k j)=some (.vptr (eS l[j]) 0):=aBg eS h 1 e l k j hj rfl
theorem Zet (l:List Int):(eIs l).length=l.length:=List.length_map ..
theorem Zeu (l:List (List UInt8)):(eSs l).length=l.length:=List.length_map ..
theorem Zer (h:aA0) (n:Int):aA2 h 1 false (.vptr (eI n) 0)=some (.int .i64 n):=rfl
theorem Zes (h:aA0) (n:List UInt8):aA2 h 1 false (.vptr (eS n) 0)=some (.str n):=rfl
theorem aSx (h:aA0) (sz:Nat) (e:Bool) (l:List (List AV)) (k:IntKind) (a:Nat) (ha:a≤l.length) (hs:aFT sz (l.drop a)=true):aBs h sz (.vsl e l) (some (.int k a)) none none=some (.vsl e (l.drop a)):=by
 have h1:aCZ l.length l.length (some (.int k a)) none none=some (a,l.length,none):=by
  simp [aCZ,aDZ,ha]
 simp [aBs,h1,aGI,hs]
theorem aOh {α:Type} (f:α→List AV) (sz:Nat) (hf:∀ x,(f x).length=sz) (l:List α):aFT sz (l.map f)=true:=by
 cases l with
 | nil=>rfl
 | cons a l=>simp [aFT,hf]
theorem aAp:maxLen=9223372036854775807:=by decide +kernel
theorem w64 {n:Int} (h0 : -9223372036854775808≤n) (h1:n≤9223372036854775807):IntKind.i64.wrap n=n:=by rw [IntKind.wrap_i64];omega
theorem aAV {n:Nat} (h1:n < 9223372036854775807):IntKind.i64.wrap ((n:Int)+1)=((n+1:Nat):Int):=by rw [w64 (by omega) (by omega)];omega
theorem eqB {R:Type} {call:aAc} {n:Nat} {F:Out→St→Option R} {s:St} {fs:List Fr} {b c:ACode} (e:b=c):eq1 call n F b s fs=eq1 call n F c s fs:=by rw [e]
theorem aAo {call:aAc} {n:Nat} {args:List AV} {h:aA0} {a:AFn} {nt:Nat} {rs:List ARes} {c:ACode} (e:a=⟨nt,rs,c⟩):aAS call n a args h=eq1 call n (fin rs) c ⟨args++List.replicate (nt - args.length) AV.un,h⟩ []:=by rw [e,aSy]
end Go.Proofs.Yteenffomgdfocaa.Ai
