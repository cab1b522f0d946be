/- Grammars as data; what the checks of a grammar compute. No program in sight. -/
import Derived.Test.YtgeedikghjcebaamAi27
import Derived.Test.YtgeedikghjcebaamAi28
namespace Go.Proofs.Ytgeedikghjcebaa.Ai
open Go
set_option linter.unusedVariables false
set_option linter.unusedSimpArgs false
theorem aAP {C:Cfg} (hx:C.ix=fun _=>none) {g:Nat} (hp:C.pu g=true) {fn:AFn} (hP:C.P g=some fn) (n:Nat) {a:List AV} (ha:∀ h,aAq (freeze h 1000) a=some (a.map fun x=>(x,true))) {x:AV}
  (hr:∃ h',aB8 (lim C) n fn a []=some (x,h')) (hf:∀ h,freeze h 1000 x=some (x,true)) (H:aA0):lim C (.func g) a H=some (x,H):=by
 obtain ⟨h',hr⟩:=hr
 exact aJa hx hp hP n ha hr (hf h') H
theorem aLb {C:Cfg} (hx:C.ix=fun _=>none) {g:Nat} (hp:C.pu g=true) {fn:AFn} (hP:C.P g=some fn) (n:Nat) {a:List AV} {l:List (AV × Bool)} {H:aA0} (ha:aAq (freeze H 1000) a=some l) {x y:AV} {c:Bool} {h':aA0}
  (hr:aB8 (lim C) n fn (l.map (·.1)) []=some (x,h')) (hf:freeze h' 1000 x=some (y,c)) (hc:(l.all (·.2) || aEO y)=true):lim C (.func g) a H=some (y,H):=by
 refine aKl hp n ?_
 unfold aBW
 rw [ha]
 simp only [aDh,hx,hP,hr,hf,Option.map_some,hc,Bool.true_or,cond_true]
theorem aAJ {α:Type} {h:List α} {i:Nat} {x:α} (hb:h[i]?=some x) (l:List α):(h++l)[i]?=some x:=by
 rw [List.getElem?_append_left (List.getElem?_eq_some_iff.1 hb).1];exact hb
theorem aBz {α:Type} (h:List α) (x:α):(h++[x])[h.length]?=some x:=by simp
theorem aGL {α:Type} (h:List α) (x y:α):(h++[x]).set h.length y=h++[y]:=by simp
theorem z0:((0:Nat):Int)=0:=rfl
theorem aT0 {h:aA0} {caps:List AV} {bs:List (AV × Bool)} {g:Nat} (d:Nat) (hcp:aAq (freeze h d) caps=some bs):freeze h (d+1) (.fn (.func g) [] caps)=some (.fn (.func g) [] (bs.map (·.1)),bs.all (·.2)):=by
 simp [freeze,aAq,hcp]
theorem aRc {h:aA0} {caps:List AV} {bs:List (AV × Bool)} {g:Nat} (hcp:aAq (freeze h 999) caps=some bs):freeze h 1000 (.fn (.func g) [] caps)=some (.fn (.func g) [] (bs.map (·.1)),bs.all (·.2)):=aT0 999 hcp
theorem aJ8 {α β:Type} {f:α→Option β} {a b:α} {x y:β} (h1:f a=some x) (h2:f b=some y):aAq f [a,b]=some [x,y]:=by simp only [aAq,h1,h2]
theorem aDH {α β:Type} {f:α→Option β} {a:α} {x:β} (h1:f a=some x):aAq f [a]=some [x]:=by simp only [aAq,h1]
theorem aES {h:aA0} {a:AV} (h1:freeze h 1000 a=some (a,true)):aAq (freeze h 1000) [a]=some ([a].map fun x=>(x,true)):=by
 simp only [aAq,h1,List.map_cons,List.map_nil]
theorem aHF {h:aA0} {a b:AV} (h1:freeze h 1000 a=some (a,true)) (h2:freeze h 1000 b=some (b,true)):aAq (freeze h 1000) [a,b]=some ([a,b].map fun x=>(x,true)):=by
 simp only [aAq,h1,h2,List.map_cons,List.map_nil]
theorem aT1 {h:aA0} {a b c:AV} (h1:freeze h 1000 a=some (a,true)) (h2:freeze h 1000 b=some (b,true)) (h3:freeze h 1000 c=some (c,true)):aAq (freeze h 1000) [a,b,c]=some ([a,b,c].map fun x=>(x,true)):=by
 simp only [aAq,h1,h2,h3,List.map_cons,List.map_nil]
end Go.Proofs.Ytgeedikghjcebaa.Ai
namespace Go.Proofs.Ytgeedikghjcebaa.Ai
open Go
set_option linter.unusedVariables false
set_option linter.unusedSimpArgs false
def Own (ys:List Int) (v:AV) (h:aA0):Prop:=(ys=[]∧v=.nilS)∨(ys≠[]∧∃ i ver,v=.hsl i ver 0 ys.length none∧h[i]?=some (.arr ver 1 false (eIs ys)))
def aGI (h h':aA0):Prop:=∀ (j:Nat) (o:AObj),h[j]?=some o→(∀ ver l,o≠.arr ver 1 false l)→h'[j]?=some o
def aTe (ys:List Int):AV:=if ys=[] then .nilS else .vsl false (eIs ys)
theorem Own.nil (h:aA0):Own [] .nilS h:=.inl ⟨rfl,rfl⟩
theorem Own.app {ys:List Int} {v:AV} {h:aA0} (ho:Own ys v h) (l:aA0):Own ys v (h++l):=by
 rcases ho with ⟨h1,h2⟩ | ⟨h1,i,ver,h2,h3⟩
 ·exact .inl ⟨h1,h2⟩
 ·exact .inr ⟨h1,i,ver,h2,aAJ h3 l⟩
theorem Own.set {ys:List Int} {v:AV} {h:aA0} (ho:Own ys v h) {j:Nat} {o:AObj} (hj:h[j]?=some o) (hn:∀ ver l,o≠.arr ver 1 false l) (o':AObj):Own ys v (h.set j o'):=by
 rcases ho with ⟨h1,h2⟩ | ⟨h1,i,ver,h2,h3⟩
 ·exact .inl ⟨h1,h2⟩
 ·refine .inr ⟨h1,i,ver,h2,?_⟩
  have:j≠i:=fun e=>by subst e;rw [h3] at hj;cases hj;exact hn _ _ rfl
  rw [List.getElem?_set_ne this];exact h3
theorem aEp (zs:List Int):(eIs zs).all (fun c=>c.length==1 && c.all aAp)=true:=by
 induction zs with
 | nil=>rfl
 | cons a z ih=>simp [eIs,eI,aAp]
theorem aEo (a b:List Int):eIs (a++b)=eIs a++eIs b:=by simp [eIs]
theorem Own.append {ys zs:List Int} {v x:AV} {h:aA0} (ho:Own ys v h) (hx:aAC h 1 x=some (eIs zs)) (hl:ys.length+zs.length≤1000000000):∃ v' h',aD9 h 1 8 v x=some (v',h')∧Own (ys++zs) v' h'∧aGI h h':=by
 unfold aD9
 rw [hx]
 simp only [Option.elim_some,aCP,Zet]
 by_cases hz:zs.length=0
 ·have:zs=[]:=List.length_eq_zero_iff.1 hz
  subst this
  rw [if_pos hz,List.append_nil]
  rcases ho with ⟨h1,h2⟩ | ⟨h1,i,ver,h2,h3⟩
  ·subst h2;exact ⟨_,_,rfl,.inl ⟨h1,rfl⟩,fun j o e _=>e⟩
  ·subst h2
   refine ⟨_,_,by simp only [aIz,aAk,h3,if_true,Option.map_some],.inr ⟨h1,i,ver,rfl,h3⟩,fun j o e _=>e⟩
 ·rw [if_neg hz]
  have hzn:zs≠[]:=fun e=>hz (by rw [e];rfl)
  rcases ho with ⟨h1,h2⟩ | ⟨h1,i,ver,h2,h3⟩
  ·subst h1 h2
   have hc:(eIs zs).length*(8+1)≤68719476736∧(eIs zs).all (fun c=>c.length==1 && c.all aAp)=true:=⟨by rw [Zet];simp at hl;omega,aEp zs⟩
   refine ⟨_,_,by simp only [aCS,aC8];rw [if_pos hc],.inr ⟨by simpa using hzn,h.length,0,by rw [Zet];rfl,by simp⟩,fun j o e _=>aAJ e _⟩
  ·subst h2
   have hne:¬ (0+ys.length+(eIs zs).length≤(eIs ys).length∧aHS (ys.length+(eIs zs).length) none=true):=by
    rw [Zet,Zet];omega
   have hc1:True∧0+ys.length≤(eIs ys).length:=⟨trivial,by rw [Zet];omega⟩
   have htk:(List.drop 0 (eIs ys)).take ys.length=eIs ys:=by rw [List.drop_zero];exact List.take_of_length_le (by rw [Zet];omega)
   have hc:(eIs ys++eIs zs).length*(8+1)≤68719476736∧(eIs ys++eIs zs).all (fun c=>c.length==1 && c.all aAp)=true:=⟨by rw [List.length_append,Zet,Zet];omega,by rw [← aEo];exact aEp _⟩
   refine ⟨.hsl i (ver+1) 0 (eIs ys++eIs zs).length none,h.set i (.arr (ver+1) 1 false (eIs ys++eIs zs)),?_,.inr ⟨by simp [h1],i,ver+1,by rw [List.length_append,Zet,Zet,List.length_append],?_⟩,fun j o e hn => ?_⟩
   ·simp only [aCS,aAk,h3,if_true]
    rw [if_pos hc1,if_neg hne]
    simp only [htk]
    rw [if_pos hc]
   ·rw [aEo];exact List.getElem?_set_self (List.getElem?_eq_some_iff.1 h3).1
   ·have:i≠j:=fun he=>by subst he;rw [h3] at e;cases e;exact hn _ _ rfl
    rw [List.getElem?_set_ne this];exact e
theorem aK8 (h:aA0) (d:Nat):∀ ys:List Int,aAq (aAq (freeze h (d+1))) (eIs ys)=some (ys.map fun y=>[(.int .i64 y,true)])
 | []=>rfl
 | y::ys=>by
  have:=aK8 h d ys
  simp only [eIs,List.map_cons,aAq,eI,freeze] at this ⊢
  rw [this]
theorem aLg {h:aA0} {d i v o n sz:Nat} {c:Option Nat} {x:Bool} {l:List (List AV)} {q:List (List (AV × Bool))} (hg:aAk h i v=some (sz,x,l)) (hl:o+n≤l.length) (hm:aAq (aAq (freeze h d)) ((l.drop o).take n)=some q) :
  freeze h (d+1) (.hsl i v o n c)=some (.vsl false (q.map (·.map (·.1))),false):=by
 simp only [freeze,hg]
 rw [if_pos hl,hm]
 rfl
theorem Own.freeze {ys:List Int} {v:AV} {h:aA0} (ho:Own ys v h):∃ c,Ai.freeze h 1000 v=some (aTe ys,c):=by
 rcases ho with ⟨h1,h2⟩ | ⟨h1,i,ver,h2,h3⟩
 ·subst h1 h2;exact ⟨true,rfl⟩
 ·subst h2
  refine ⟨false,?_⟩
  have htk:(List.drop 0 (eIs ys)).take ys.length=eIs ys:=by rw [List.drop_zero];exact List.take_of_length_le (by rw [Zet];omega)
  have hl:0+ys.length≤(eIs ys).length:=by rw [Zet];omega
  have hg:aAk h i ver=some (1,false,eIs ys):=by simp only [aAk,h3,if_true]
  have hm:aAq (aAq (Ai.freeze h 999)) (((eIs ys).drop 0).take ys.length)=some (ys.map fun y=>[(.int .i64 y,true)]):=by rw [htk];exact aK8 h 998 ys
  have:=aLg (d:=999) (c:=none) hg hl hm
  rw [this,aTe,if_neg h1]
  congr 2
  simp [eIs,eI,Function.comp_def]
theorem aGI.refl (h:aA0):aGI h h:=fun _ _ e _=>e
theorem aGI.trans {a b c:aA0} (h:aGI a b) (k:aGI b c):aGI a c:=fun j o e hn=>k j o (h j o e hn) hn
theorem aGI.app (h l:aA0):aGI h (h++l):=fun j o e _=>aAJ e l
end Go.Proofs.Ytgeedikghjcebaa.Ai
namespace Go.Proofs.Ytgeedikghjcebaa.Ai
open Go
open List renaming getElem?_eq_some_iff → Q0
set_option linter.unusedVariables false
set_option linter.unusedSimpArgs false
theorem aAs {α:Type} {h:List α} {i j:Nat} {x y:α} (hj:h[j]?=some x) (hij:i≠j):(h.set i y)[j]?=some x:=by rw [List.getElem?_set_ne hij];exact hj
theorem aAr {α:Type} {h:List α} {i:Nat} {x y:α} (hi:h[i]?=some x):(h.set i y)[i]?=some y:=List.getElem?_set_self (Q0.1 hi).1
theorem aBS {α:Type} {h:List α} {i:Nat} {x:α} (hi:h[i]?=some x):i < h.length:=(Q0.1 hi).1
theorem aE8 (h:aA0) (i v e o:Nat):aNM h (.ptr i v e o)=some (.ptr i v e o):=rfl
theorem aIn {α:Type} (h l:List α):(h++l)[h.length]?=l[0]?:=by rw [List.getElem?_append_right (Nat.le_refl _),Nat.sub_self]
theorem aDk {α:Type} (h l:List α) (k:Nat):(h++l)[h.length+k]?=l[k]?:=by rw [List.getElem?_append_right (by omega),Nat.add_sub_cancel_left]
theorem aRb {α:Type} (h l:List α) (x:α):(h++l).set h.length x=h++l.set 0 x:=by rw [List.set_append_right _ _ (Nat.le_refl _),Nat.sub_self]
theorem aFq {α:Type} (h l:List α) (k:Nat) (x:α):(h++l).set (h.length+k) x=h++l.set k x:=by rw [List.set_append_right _ _ (by omega),Nat.add_sub_cancel_left]
theorem aBM {h:aA0} {i ver n:Nat} {sz:Nat} {x:Bool} {rows:List (List AV)} {c:Option Nat} (hi:h[i]?=some (.arr ver sz x rows)) {k:IntKind} {j:Nat} (hj:j < n):aAN h sz (.hsl i ver 0 n c) (.int k j)=some (.ptr i ver j 0):=by
 have:(0:Int)≤j∧(j:Int) < n:=by omega
 simp [aAN,aAk,hi,hj]
theorem aOR (l:List Int) (j:Nat) (hj:j < l.length):(eIs l)[j]?=some [.int .i64 l[j]]:=by simp [eIs,eI,hj]
theorem aSj (l:List Int) (j:Nat) (n:Int):(eIs l).set j [.int .i64 n]=eIs (l.set j n):=by simp [eIs,eI,List.map_set]
theorem ldI {h:aA0} {i ver:Nat} {x:Bool} {l:List Int} {tl:List (List AV)} (hi:h[i]?=some (.arr ver 1 x (eIs l++tl))) {j:Nat} (hj:j < l.length):aAb h 1 false (.ptr i ver j 0)=some (.int .i64 l[j]):=by
 have e:(eIs l++tl)[j]?=some [.int .i64 l[j]]:=by rw [List.getElem?_append_left (by rw [Zet];exact hj),aOR l j hj]
 rw [aB5 h 1 i ver j 0 false 1 x _ _ hi e]
 rfl
theorem stI {h:aA0} {i ver:Nat} {x:Bool} {l:List Int} {tl:List (List AV)} (hi:h[i]?=some (.arr ver 1 x (eIs l++tl))) {j:Nat} (hj:j < l.length) (n:Int):aAB h 1 (.ptr i ver j 0) (.int .i64 n)=some (h.set i (.arr ver 1 x (eIs (l.set j n)++tl))):=by
 have e:(eIs l++tl)[j]?=some [.int .i64 l[j]]:=by rw [List.getElem?_append_left (by rw [Zet];exact hj),aOR l j hj]
 rw [aKh h 1 i ver j 0 _ 1 x _ _ hi e rfl (by simp) rfl]
 have e2:(eIs l++tl).set j (aAv [AV.int .i64 l[j]] 0 (cellsOf (.int .i64 n)))=eIs (l.set j n)++tl:=by
  rw [List.set_append_left _ _ (by rw [Zet];exact hj)]
  have:aAv [AV.int .i64 l[j]] 0 (cellsOf (.int .i64 n))=[.int .i64 n]:=rfl
  rw [this,aSj]
 rw [e2]
theorem aBq {α:Type} {h:List α} {i:Nat} {x:α} (e:h[i]?=some x):h.set i x=h:=by
 obtain ⟨h1,h2⟩:=Q0.1 e
 rw [← h2];exact List.set_getElem_self h1
theorem set_set {α:Type} (h:List α) (i:Nat) (x y:α):(h.set i x).set i y=h.set i y:=List.set_set ..
end Go.Proofs.Ytgeedikghjcebaa.Ai
namespace Go.Proofs.Ytgeedikghjcebaa.Ai
open Go
open List renaming replicate → Q0
set_option linter.unusedVariables false
set_option linter.unusedSimpArgs false
def aAu (sz:Nat) (rows:List (List AV)) (v:AV) (h:aA0) (q:Option Nat):Prop :=
 (rows=[]∧v=.nilS∧q=none)∨(rows≠[]∧∃ i ver,q=some i∧v=.hsl i ver 0 rows.length none∧h[i]?=some (.arr ver sz false rows))
theorem aAu.nil (sz:Nat) (h:aA0):aAu sz [] .nilS h none:=.inl ⟨rfl,rfl,rfl⟩
theorem aAu.frame {sz:Nat} {rows:List (List AV)} {v:AV} {h h':aA0} {q:Option Nat} (ho:aAu sz rows v h q) (hf:∀ i o,q=some i→h[i]?=some o→h'[i]?=some o):aAu sz rows v h' q:=by
 rcases ho with ho | ⟨h1,i,ver,h2,h3,h4⟩
 ·exact .inl ho
 ·exact .inr ⟨h1,i,ver,h2,h3,hf i _ h2 h4⟩
theorem aAu.len {sz:Nat} {rows:List (List AV)} {v:AV} {h:aA0} {q:Option Nat} (ho:aAu sz rows v h q) (h':aA0):aBX h' .slice v=some (.int .i64 rows.length):=by
 rcases ho with ⟨h1,h2,_⟩ | ⟨h1,i,ver,h2,h3,h4⟩
 ·subst h1 h2;rfl
 ·subst h3;rfl
theorem aAu.cell {sz:Nat} {rows:List (List AV)} {v:AV} {h:aA0} {q:Option Nat} (ho:aAu sz rows v h q):cellsOf v=[v]∧aAp v=true:=by
 rcases ho with ⟨_,h2,_⟩ | ⟨_,i,ver,_,h3,_⟩
 ·subst h2;exact ⟨rfl,rfl⟩
 ·subst h3;exact ⟨rfl,rfl⟩
theorem aAu.lt {sz:Nat} {rows:List (List AV)} {v:AV} {h:aA0} {i:Nat} (ho:aAu sz rows v h (some i)):i < h.length:=by
 rcases ho with ⟨_,_,h⟩ | ⟨_,j,ver,h2,_,h4⟩
 ·cases h
 ·cases h2;exact aBS h4
theorem aAu.push {sz:Nat} {rows:List (List AV)} {c:List AV} {v:AV} {h:aA0} {q:Option Nat} (e:Bool) (ho:aAu sz rows v h q) (hsz:c.length=sz) (hc:c.all aAp=true) (hall:rows.all (fun c=>c.length==sz && c.all aAp)=true) (bytes:Nat) (hb:bytes≤1000) (hl:rows.length≤10000000) :
  ∃ i ver h',aD9 h sz bytes v (.vsl e [c])=some (.hsl i ver 0 (rows.length+1) none,h')∧aAu sz (rows++[c]) (.hsl i ver 0 (rows.length+1) none) h' (some i)∧(∀ j o,h[j]?=some o→q≠some j→h'[j]?=some o)∧(q=some i∨(q=none∧i=h.length))∧h.length≤h'.length:=by
 have hel:aAC h sz (.vsl e [c])=some [c]:=by simp [aAC,hsz]
 have hc1:(c.length==sz && c.all aAp)=true:=by rw [hc,hsz];simp
 unfold aD9
 rw [hel]
 simp only [Option.elim_some,aCP,List.length_cons,List.length_nil]
 rcases ho with ⟨rfl,rfl,rfl⟩ | ⟨h1,i,ver,rfl,rfl,h3⟩
 ·have hcd:[c].length*(bytes+1)≤68719476736∧[c].all (fun c=>c.length==sz && c.all aAp)=true:=⟨by simp;omega,by simp only [List.all_cons,List.all_nil,hc1];rfl⟩
  refine ⟨h.length,0,h++[.arr 0 sz false [c]],by simp only [aCS,aC8];rw [if_pos hcd];rfl,.inr ⟨by simp,h.length,0,rfl,by simp,by simp⟩,fun j o e _=>aAJ e _,.inr ⟨rfl,rfl⟩,by simp⟩
 ·have hne:¬ (0+rows.length+[c].length≤rows.length∧aHS (rows.length+[c].length) none=true):=by
   simp only [List.length_cons,List.length_nil];omega
  have hc2:True∧0+rows.length≤rows.length:=⟨trivial,by omega⟩
  have htk:(List.drop 0 rows).take rows.length=rows:=by rw [List.drop_zero];exact List.take_of_length_le (Nat.le_refl _)
  have hall2:(rows++[c]).all (fun c=>c.length==sz && c.all aAp)=true:=by rw [List.all_append,hall];simp only [List.all_cons,List.all_nil,hc1];rfl
  have hlen:(rows++[c]).length=rows.length+1:=by simp
  have hcd:(rows++[c]).length*(bytes+1)≤68719476736∧(rows++[c]).all (fun c=>c.length==sz && c.all aAp)=true:=by
   refine ⟨?_,hall2⟩
   rw [hlen]
   have:(rows.length+1)*(bytes+1)≤10000001*1001:=Nat.mul_le_mul (by omega) (by omega)
   omega
  refine ⟨i,ver+1,h.set i (.arr (ver+1) sz false (rows++[c])),?_,.inr ⟨by simp,i,ver+1,rfl,by simp,aAr h3⟩,fun j o e hn=>aAs e (fun he=>hn (by rw [he])),.inl rfl,by simp⟩
  simp only [aCS,aAk,h3,if_true]
  rw [if_pos hc2,if_neg hne]
  simp only [htk]
  rw [if_pos hcd,hlen]
  rfl
def aAW (l:List Int) (v:AV) (h:aA0) (q:Option Nat):Prop :=
 (l=[]∧v=.nilS∧q=none)∨∃ i c,q=some i∧v=.hsl i 0 0 l.length (some c)∧l.length≤c∧h[i]?=some (.arr 0 1 true (eIs l++Q0 (c - l.length) [.int .i64 0]))
theorem aAW.nil (h:aA0):aAW [] .nilS h none:=.inl ⟨rfl,rfl,rfl⟩
theorem aAW.frame {l:List Int} {v:AV} {h h':aA0} {q:Option Nat} (ho:aAW l v h q) (hf:∀ i o,q=some i→h[i]?=some o→h'[i]?=some o):aAW l v h' q:=by
 rcases ho with ho | ⟨i,c,h1,h2,h3,h4⟩
 ·exact .inl ho
 ·exact .inr ⟨i,c,h1,h2,h3,hf i _ h1 h4⟩
theorem aAW.len {l:List Int} {v:AV} {h:aA0} {q:Option Nat} (ho:aAW l v h q) (h':aA0):aBX h' .slice v=some (.int .i64 l.length):=by
 rcases ho with ⟨h1,h2,_⟩ | ⟨i,c,_,h2,_,_⟩
 ·subst h1 h2;rfl
 ·subst h2;rfl
theorem aAW.cell {l:List Int} {v:AV} {h:aA0} {q:Option Nat} (ho:aAW l v h q):cellsOf v=[v]∧aAp v=true:=by
 rcases ho with ⟨_,h2,_⟩ | ⟨i,c,_,h2,_,_⟩ <;> subst h2 <;> exact ⟨rfl,rfl⟩
theorem aAW.lt {l:List Int} {v:AV} {h:aA0} {i:Nat} (ho:aAW l v h (some i)):i < h.length:=by
 rcases ho with ⟨_,_,h⟩ | ⟨j,c,h1,_,_,h4⟩
 ·cases h
 ·cases h1;exact aBS h4
theorem aAW.ix {l:List Int} {v:AV} {h:aA0} {q:Option Nat} (ho:aAW l v h q) {j:Nat} (hj:j < l.length):∃ i,q=some i∧(∀ k:IntKind,aAN h 1 v (.int k j)=some (.ptr i 0 j 0))∧aAb h 1 false (.ptr i 0 j 0)=some (.int .i64 l[j]):=by
 rcases ho with ⟨h1,_⟩ | ⟨i,c,h1,h2,h3,h4⟩
 ·subst h1;simp at hj
 ·subst h2
  exact ⟨i,h1,fun k=>aBM h4 hj,ldI h4 hj⟩
theorem aAW.put {l:List Int} {v:AV} {h:aA0} {i:Nat} (ho:aAW l v h (some i)) {j:Nat} (hj:j < l.length) (n:Int):∃ h',aAB h 1 (.ptr i 0 j 0) (.int .i64 n)=some h'∧aAW (l.set j n) v h' (some i)∧(∀ p o,h[p]?=some o→p≠i→h'[p]?=some o)∧h'.length=h.length:=by
 rcases ho with ⟨h1,_⟩ | ⟨i',c,h1,h2,h3,h4⟩
 ·subst h1;simp at hj
 ·cases h1
  subst h2
  refine ⟨_,stI h4 hj n,.inr ⟨i,c,rfl,by rw [List.length_set],by rw [List.length_set];exact h3,by rw [List.length_set];exact aAr h4⟩,fun p o e hne=>aAs e (Ne.symm hne),by simp⟩
def aEr (l:List Int) (n:Nat):List Int:=l++Q0 (n - l.length) 0
theorem aE7 (l:List Int) (n:Nat):(aEr l n).length=max l.length n:=by simp [aEr];omega
theorem aQj {l:List Int} {n:Nat} (h:n≤l.length):aEr l n=l:=by
 have:n - l.length=0:=by omega
 simp [aEr,this]
theorem aMJ (k:Nat):eIs (Q0 k 0)=Q0 k [AV.int .i64 0]:=by simp [eIs,eI]
theorem aMG {l:List Int} {n c:Nat} (h1:l.length≤n) (h2:n≤c):eIs l++Q0 (c - l.length) [AV.int .i64 0]=eIs (aEr l n)++Q0 (c - (aEr l n).length) [AV.int .i64 0]:=by
 rw [aE7,Nat.max_eq_right h1,aEr,aEo,aMJ,List.append_assoc,List.replicate_append_replicate]
 congr 2;omega
theorem aGC (h:aA0) (z a:AV) (ha:pure1 a=true) (ca:cellsOf a=[a]):aBH h false 1 1 [z] [(0,a)]=some (.vsl true [[a]],h):=by
 simp [aBH,aAF,aB4,aAv,ca,aCh,ha]
theorem aU6 (k:IntKind) (n:Int):aAp (.int k n)=true:=rfl
theorem aU7 (i v o n:Nat) (c:Option Nat):aAp (.hsl i v o n c)=true:=rfl
end Go.Proofs.Ytgeedikghjcebaa.Ai
