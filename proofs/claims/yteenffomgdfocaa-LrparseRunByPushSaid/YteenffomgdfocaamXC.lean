/- Lists of numbers that a function makes by append. -/
import Derived.Test.YteenffomgdfocaamXA
import Derived.Test.YteenffomgdfocaamAi28
namespace Go.Proofs.Yteenffomgdfocaa.Ai
open Go
set_option linter.unusedVariables false
set_option linter.unusedSimpArgs false
def Own (ys:List Int) (v:AV) (h:aA0):Prop:=(ys=[]∧v=.nilS)∨(ys≠[]∧∃ i ver,v=.hsl i ver 0 ys.length none∧h[i]?=some (.arr ver 1 false (eIs ys)))
def aHd (h h':aA0):Prop:=∀ (j:Nat) (o:AObj),h[j]?=some o→(∀ ver l,o≠.arr ver 1 false l)→h'[j]?=some o
def aOn (ys:List Int):AV:=if ys=[] then .nilS else .vsl false (eIs ys)
theorem Own.nil (h:aA0):Own [] .nilS h:=.inl ⟨rfl,rfl⟩
theorem Own.app {ys:List Int} {v:AV} {h:aA0} (ho:Own ys v h) (l:aA0):Own ys v (h++l):=by
 rcases ho with ⟨h1,h2⟩ | ⟨h1,i,ver,h2,h3⟩
 ·exact .inl ⟨h1,h2⟩
 ·exact .inr ⟨h1,i,ver,h2,aAX h3 l⟩
theorem Own.set {ys:List Int} {v:AV} {h:aA0} (ho:Own ys v h) {j:Nat} {o:AObj} (hj:h[j]?=some o) (hn:∀ ver l,o≠.arr ver 1 false l) (o':AObj):Own ys v (h.set j o'):=by
 rcases ho with ⟨h1,h2⟩ | ⟨h1,i,ver,h2,h3⟩
 ·exact .inl ⟨h1,h2⟩
 ·refine .inr ⟨h1,i,ver,h2,?_⟩
  have:j≠i:=fun e=>by subst e;rw [h3] at hj;cases hj;exact hn _ _ rfl
  rw [List.getElem?_set_ne this];exact h3
theorem aGL (zs:List Int):(eIs zs).all (fun c=>c.length==1 && c.all aAn)=true:=by
 induction zs with
 | nil=>rfl
 | cons a z ih=>simp [eIs,eI,aAn]
theorem aC1 (a b:List Int):eIs (a++b)=eIs a++eIs b:=by simp [eIs]
theorem Own.append {ys zs:List Int} {v x:AV} {h:aA0} (ho:Own ys v h) (hx:aAI h 1 x=some (eIs zs)) (hl:ys.length+zs.length≤1000000000):∃ v' h',aGw h 1 8 v x=some (v',h')∧Own (ys++zs) v' h'∧aHd h h':=by
 unfold aGw
 rw [hx]
 simp only [Option.elim_some,aD0,Zet]
 by_cases hz:zs.length=0
 ·have:zs=[]:=List.length_eq_zero_iff.1 hz
  subst this
  rw [if_pos hz,List.append_nil]
  rcases ho with ⟨h1,h2⟩ | ⟨h1,i,ver,h2,h3⟩
  ·subst h2;exact ⟨_,_,rfl,.inl ⟨h1,rfl⟩,fun j o e _=>e⟩
  ·subst h2
   refine ⟨_,_,by simp only [aIV,aA3,h3,if_true,Option.map_some],.inr ⟨h1,i,ver,rfl,h3⟩,fun j o e _=>e⟩
 ·rw [if_neg hz]
  have hzn:zs≠[]:=fun e=>hz (by rw [e];rfl)
  rcases ho with ⟨h1,h2⟩ | ⟨h1,i,ver,h2,h3⟩
  ·subst h1 h2
   have hc:(eIs zs).length*(8+1)≤68719476736∧(eIs zs).all (fun c=>c.length==1 && c.all aAn)=true:=⟨by rw [Zet];simp at hl;omega,aGL zs⟩
   refine ⟨_,_,by simp only [aEl,aBq];rw [if_pos hc],.inr ⟨by simpa using hzn,h.length,0,by rw [Zet];rfl,by simp⟩,fun j o e _=>aAX e _⟩
  ·subst h2
   have hne:¬ (0+ys.length+(eIs zs).length≤(eIs ys).length∧aHD (ys.length+(eIs zs).length) none=true):=by
    rw [Zet,Zet];omega
   have hc1:True∧0+ys.length≤(eIs ys).length:=⟨trivial,by rw [Zet];omega⟩
   have htk:(List.drop 0 (eIs ys)).take ys.length=eIs ys:=by rw [List.drop_zero];exact List.take_of_length_le (by rw [Zet];omega)
   have hc:(eIs ys++eIs zs).length*(8+1)≤68719476736∧(eIs ys++eIs zs).all (fun c=>c.length==1 && c.all aAn)=true:=⟨by rw [List.length_append,Zet,Zet];omega,by rw [← aC1];exact aGL _⟩
   refine ⟨.hsl i (ver+1) 0 (eIs ys++eIs zs).length none,h.set i (.arr (ver+1) 1 false (eIs ys++eIs zs)),?_,.inr ⟨by simp [h1],i,ver+1,by rw [List.length_append,Zet,Zet,List.length_append],?_⟩,fun j o e hn => ?_⟩
   ·simp only [aEl,aA3,h3,if_true]
    rw [if_pos hc1,if_neg hne]
    simp only [htk]
    rw [if_pos hc]
   ·rw [aC1];exact List.getElem?_set_self (List.getElem?_eq_some_iff.1 h3).1
   ·have:i≠j:=fun he=>by subst he;rw [h3] at e;cases e;exact hn _ _ rfl
    rw [List.getElem?_set_ne this];exact e
theorem aF8 (h:aA0) (d:Nat):∀ ys:List Int,aAk (aAk (freeze h (d+1))) (eIs ys)=some (ys.map fun y=>[(.int .i64 y,true)])
 | []=>rfl
 | y::ys=>by
  have:=aF8 h d ys
  simp only [eIs,List.map_cons,aAk,eI,freeze] at this ⊢
  rw [this]
theorem aGZ {h:aA0} {d i v o n sz:Nat} {c:Option Nat} {x:Bool} {l:List (List AV)} {q:List (List (AV × Bool))} (hg:aA3 h i v=some (sz,x,l)) (hl:o+n≤l.length) (hm:aAk (aAk (freeze h d)) ((l.drop o).take n)=some q) :
  freeze h (d+1) (.hsl i v o n c)=some (.vsl false (q.map (·.map (·.1))),false):=by
 simp only [freeze,hg]
 rw [if_pos hl,hm]
 rfl
theorem Own.freeze {ys:List Int} {v:AV} {h:aA0} (ho:Own ys v h):∃ c,Ai.freeze h 1000 v=some (aOn ys,c):=by
 rcases ho with ⟨h1,h2⟩ | ⟨h1,i,ver,h2,h3⟩
 ·subst h1 h2;exact ⟨true,rfl⟩
 ·subst h2
  refine ⟨false,?_⟩
  have htk:(List.drop 0 (eIs ys)).take ys.length=eIs ys:=by rw [List.drop_zero];exact List.take_of_length_le (by rw [Zet];omega)
  have hl:0+ys.length≤(eIs ys).length:=by rw [Zet];omega
  have hg:aA3 h i ver=some (1,false,eIs ys):=by simp only [aA3,h3,if_true]
  have hm:aAk (aAk (Ai.freeze h 999)) (((eIs ys).drop 0).take ys.length)=some (ys.map fun y=>[(.int .i64 y,true)]):=by rw [htk];exact aF8 h 998 ys
  have:=aGZ (d:=999) (c:=none) hg hl hm
  rw [this,aOn,if_neg h1]
  congr 2
  simp [eIs,eI,Function.comp_def]
theorem aHd.trans {a b c:aA0} (h:aHd a b) (k:aHd b c):aHd a c:=fun j o e hn=>k j o (h j o e hn) hn
theorem aHd.app (h l:aA0):aHd h (h++l):=fun j o e _=>aAX e l
theorem aEN (h:aA0) (s:Int):aKl h false 1 1 [.int .i64 0] [(0,.int .i64 s)]=some (.vsl true [[.int .i64 s]],h):=by
 simp [aKl,aAG,aBD,aAm,cellsOf,aDf,pure1]
end Go.Proofs.Yteenffomgdfocaa.Ai
namespace Go.Proofs.Yteenffomgdfocaa.Ai
open Go
set_option linter.unusedVariables false
set_option linter.unusedSimpArgs false
theorem aFD {α:Type} {h:List α} {i j:Nat} {x y:α} (hj:h[j]?=some x) (hij:i≠j):(h.set i y)[j]?=some x:=by rw [List.getElem?_set_ne hij];exact hj
theorem aEx {α:Type} {h:List α} {i:Nat} {x y:α} (hi:h[i]?=some x):(h.set i y)[i]?=some y:=List.getElem?_set_self (List.getElem?_eq_some_iff.1 hi).1
theorem aGG {α:Type} {h:List α} {i:Nat} {x:α} (hi:h[i]?=some x):i < h.length:=(List.getElem?_eq_some_iff.1 hi).1
theorem aFu (h:aA0) (i v e o:Nat):aMm h (.ptr i v e o)=some (.ptr i v e o):=rfl
theorem aQK {h:aA0} {i ver n:Nat} {sz:Nat} {x:Bool} {rows:List (List AV)} {c:Option Nat} (hi:h[i]?=some (.arr ver sz x rows)) {k:IntKind} {j:Nat} (hj:j < n):aAs h sz (.hsl i ver 0 n c) (.int k j)=some (.ptr i ver j 0):=by
 have:(0:Int)≤j∧(j:Int) < n:=by omega
 simp [aAs,aA3,hi,hj]
theorem aNS (l:List Int) (j:Nat) (hj:j < l.length):(eIs l)[j]?=some [.int .i64 l[j]]:=by simp [eIs,eI,hj]
theorem aRv (l:List Int) (j:Nat) (n:Int):(eIs l).set j [.int .i64 n]=eIs (l.set j n):=by simp [eIs,eI,List.map_set]
theorem ldI {h:aA0} {i ver:Nat} {x:Bool} {l:List Int} {tl:List (List AV)} (hi:h[i]?=some (.arr ver 1 x (eIs l++tl))) {j:Nat} (hj:j < l.length):aA2 h 1 false (.ptr i ver j 0)=some (.int .i64 l[j]):=by
 have e:(eIs l++tl)[j]?=some [.int .i64 l[j]]:=by rw [List.getElem?_append_left (by rw [Zet];exact hj),aNS l j hj]
 rw [aRY h 1 i ver j 0 false 1 x _ _ hi e]
 rfl
theorem stI {h:aA0} {i ver:Nat} {x:Bool} {l:List Int} {tl:List (List AV)} (hi:h[i]?=some (.arr ver 1 x (eIs l++tl))) {j:Nat} (hj:j < l.length) (n:Int):aAq h 1 (.ptr i ver j 0) (.int .i64 n)=some (h.set i (.arr ver 1 x (eIs (l.set j n)++tl))):=by
 have e:(eIs l++tl)[j]?=some [.int .i64 l[j]]:=by rw [List.getElem?_append_left (by rw [Zet];exact hj),aNS l j hj]
 rw [aSQ h 1 i ver j 0 _ 1 x _ _ hi e rfl (by simp) rfl]
 have e2:(eIs l++tl).set j (aAm [AV.int .i64 l[j]] 0 (cellsOf (.int .i64 n)))=eIs (l.set j n)++tl:=by
  rw [List.set_append_left _ _ (by rw [Zet];exact hj)]
  have:aAm [AV.int .i64 l[j]] 0 (cellsOf (.int .i64 n))=[.int .i64 n]:=rfl
  rw [this,aRv]
 rw [e2]
end Go.Proofs.Yteenffomgdfocaa.Ai
namespace Go.Proofs.Yteenffomgdfocaa.Ai
open Go Go.Proofs
set_option linter.unusedVariables false
set_option linter.unusedSimpArgs false
set_option maxRecDepth 10000
set_option maxHeartbeats 4000000
def Li (l:List Int) (v:AV):Prop:=(l=[]∧v=.nilS)∨∃ e,v=.vsl e (eIs l)
theorem Li.len {l:List Int} {v:AV} (hl:Li l v) (h:aA0):aBt h .slice v=some (.int .i64 l.length):=by
 rcases hl with ⟨rfl,rfl⟩ | ⟨e,rfl⟩
 ·rfl
 ·simp [aBt,Zet]
theorem Li.ix {l:List Int} {v:AV} (hl:Li l v) (h:aA0) (k:IntKind) (j:Nat) (hj:j < l.length):aAs h 1 v (.int k j)=some (.vptr (eI l[j]) 0):=by
 rcases hl with ⟨rfl,rfl⟩ | ⟨e,rfl⟩
 ·simp at hj
 ·exact aCa h e l k j hj
theorem Li.fz {l:List Int} {v:AV} (hl:Li l v) (h:aA0) (d:Nat):freeze h (d+1) v=some (v,true):=by
 rcases hl with ⟨rfl,rfl⟩ | ⟨e,rfl⟩ <;> rfl
theorem Li.cell {l:List Int} {v:AV} (hl:Li l v):cellsOf v=[v]∧aAn v=true:=by
 rcases hl with ⟨rfl,rfl⟩ | ⟨e,rfl⟩ <;> exact ⟨rfl,rfl⟩
theorem aRb (l:List Int):Li l (aOn l):=by
 unfold aOn
 split
 ·rename_i e;exact .inl ⟨e,rfl⟩
 ·exact .inr ⟨false,rfl⟩
theorem aRV (e:Bool) (l:List Int):Li l (.vsl e (eIs l)):=.inr ⟨e,rfl⟩
def LiR (rows:List (List Int)) (v:AV):Prop:=(rows=[]∧v=.nilS)∨∃ e cs,v=.vsl e cs∧cs.length=rows.length∧∀ (j:Nat) (hj:j < rows.length),∃ rv,cs[j]?=some [rv]∧Li rows[j] rv
theorem LiR.len {l:List (List Int)} {v:AV} (hl:LiR l v) (h:aA0):aBt h .slice v=some (.int .i64 l.length):=by
 rcases hl with ⟨rfl,rfl⟩ | ⟨e,cs,rfl,h1,_⟩
 ·rfl
 ·simp [aBt,h1]
theorem LiR.ix {l:List (List Int)} {v:AV} (hl:LiR l v) (j:Nat) (hj:j < l.length):∃ rv,Li l[j] rv∧∀ (h:aA0) (k:IntKind),aAs h 1 v (.int k j)=some (.vptr [rv] 0):=by
 rcases hl with ⟨rfl,rfl⟩ | ⟨e,cs,rfl,h1,h2⟩
 ·simp at hj
 ·obtain ⟨rv,h3,h4⟩:=h2 j hj
  exact ⟨rv,h4,fun h k=>by simp [aAs,h3]⟩
theorem LiR.fz {l:List (List Int)} {v:AV} (hl:LiR l v) (h:aA0) (d:Nat):freeze h (d+1) v=some (v,true):=by
 rcases hl with ⟨rfl,rfl⟩ | ⟨e,cs,rfl,_⟩ <;> rfl
theorem Li.pure1 {l:List Int} {v:AV} (hl:Li l v):Ai.pure1 v=true:=by
 rcases hl with ⟨rfl,rfl⟩ | ⟨e,rfl⟩ <;> rfl
def LiG {X:Type} (P:X→AV→Prop) (xs:List X) (v:AV):Prop:=(xs=[]∧v=.nilS)∨∃ e cs,v=.vsl e cs∧cs.length=xs.length∧∀ (j:Nat) (hj:j < xs.length),∃ rv,cs[j]?=some [rv]∧P xs[j] rv
section
variable {X : Type} {P : X → AV → Prop} {xs : List X} {v : AV}
theorem LiG.len (hl:LiG P xs v) (h:aA0):aBt h .slice v=some (.int .i64 xs.length):=by
 rcases hl with ⟨rfl,rfl⟩ | ⟨e,cs,rfl,h1,_⟩
 ·rfl
 ·simp [aBt,h1]
theorem LiG.ix (hl:LiG P xs v) (j:Nat) (hj:j < xs.length):∃ rv,P xs[j] rv∧∀ (h:aA0) (k:IntKind),aAs h 1 v (.int k j)=some (.vptr [rv] 0):=by
 rcases hl with ⟨rfl,rfl⟩ | ⟨e,cs,rfl,h1,h2⟩
 ·simp at hj
 ·obtain ⟨rv,h3,h4⟩:=h2 j hj
  exact ⟨rv,h4,fun h k=>by simp [aAs,h3]⟩
theorem LiG.fz (hl:LiG P xs v) (h:aA0) (d:Nat):freeze h (d+1) v=some (v,true):=by
 rcases hl with ⟨rfl,rfl⟩ | ⟨e,cs,rfl,_⟩ <;> rfl
theorem LiG.cell (hl:LiG P xs v):cellsOf v=[v]∧aAn v=true:=by
 rcases hl with ⟨rfl,rfl⟩ | ⟨e,cs,rfl,_⟩ <;> exact ⟨rfl,rfl⟩
end
theorem LiR.cell {xs:List (List Int)} {v:AV} (hl:LiR xs v):cellsOf v=[v]∧aAn v=true:=by
 rcases hl with ⟨rfl,rfl⟩ | ⟨e,cs,rfl,_⟩ <;> exact ⟨rfl,rfl⟩
def aAv (a:Int × Int):List AV:=[.int .i64 a.1,.int .i64 a.2]
def LiA (l:List (Int × Int)) (v:AV):Prop:=(l=[]∧v=.nilS)∨∃ e,v=.vsl e (l.map aAv)
theorem LiA.len {l:List (Int × Int)} {v:AV} (hl:LiA l v) (h:aA0):aBt h .slice v=some (.int .i64 l.length):=by
 rcases hl with ⟨rfl,rfl⟩ | ⟨e,rfl⟩
 ·rfl
 ·simp [aBt]
theorem LiA.ix {l:List (Int × Int)} {v:AV} (hl:LiA l v) (h:aA0) (k:IntKind) (j:Nat) (hj:j < l.length):aAs h 2 v (.int k j)=some (.vptr (aAv l[j]) 0):=by
 rcases hl with ⟨rfl,rfl⟩ | ⟨e,rfl⟩
 ·simp at hj
 ·simp [aAs,hj,aAv]
theorem LiA.fz {l:List (Int × Int)} {v:AV} (hl:LiA l v) (h:aA0) (d:Nat):freeze h (d+1) v=some (v,true):=by
 rcases hl with ⟨rfl,rfl⟩ | ⟨e,rfl⟩ <;> rfl
theorem LiA.cell {l:List (Int × Int)} {v:AV} (hl:LiA l v):cellsOf v=[v]∧aAn v=true:=by
 rcases hl with ⟨rfl,rfl⟩ | ⟨e,rfl⟩ <;> exact ⟨rfl,rfl⟩
structure TabD where
 acts:List (List (List (Int × Int)))
 gotos:List (List Int)
structure TabLen (t:TabD):Prop where
 acts:t.acts.length≤maxLen
 gotos:t.gotos.length≤maxLen
 row:∀ r ∈ t.acts,r.length≤maxLen∧∀ c ∈ r,c.length≤maxLen
 grow:∀ r ∈ t.gotos,r.length≤maxLen
end Go.Proofs.Yteenffomgdfocaa.Ai
