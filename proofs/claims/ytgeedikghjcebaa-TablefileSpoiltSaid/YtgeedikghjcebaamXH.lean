/- The reference of pack.Lay: the order. -/
import Derived.Test.YtgeedikghjcebaamXG
import Derived.Test.YtgeedikghjcebaamXB
namespace Go.Proofs.Ytgeedikghjcebaa.Ai
open Go Go.Proofs
set_option linter.unusedVariables false
set_option linter.unusedSimpArgs false
set_option maxRecDepth 10000
set_option maxHeartbeats 4000000
def aRp (own:List (List Int)) (x:Int):Nat:=aCZ (own.getD x.toNat [])
def aEE (own:List (List Int)) (i x:Int):Bool:=decide (aRp own i≤aRp own x)
def aGM (own:List (List Int)) (l:List Int) (i:Int):List Int:=l.takeWhile (aEE own i)++i::l.dropWhile (aEE own i)
def aE3 (own:List (List Int)):List Int:=(aCt own.length).foldl (aGM own) []
theorem aKr (l:List Int) (x:Int):eIs (l++[x])=eIs l++[[.int .i64 x]]:=by rw [aEo];rfl
section
variable {own : List (List Int)} {v : AV}
end
end Go.Proofs.Ytgeedikghjcebaa.Ai
namespace Go.Proofs.Ytgeedikghjcebaa.Ai
open Go Go.Proofs
set_option linter.unusedVariables false
set_option linter.unusedSimpArgs false
set_option maxRecDepth 10000
set_option maxHeartbeats 4000000
theorem aJ5 (own:List (List Int)) (l:List Int) (i:Int):List.Perm (aGM own l i) (i::l):=by
 unfold aGM
 exact List.perm_middle.trans (by rw [List.takeWhile_append_dropWhile])
section
variable {own : List (List Int)} {v : AV}
end
end Go.Proofs.Ytgeedikghjcebaa.Ai
namespace Go.Proofs.Ytgeedikghjcebaa.Ai
open Go Go.Proofs
set_option linter.unusedVariables false
set_option linter.unusedSimpArgs false
theorem aQ6 (own:List (List Int)) (i x:Int):aGW own i < aGW own x↔¬ aEE own i x=true:=by
 unfold aGW aEE aRp
 rw [decide_eq_true_eq]
 generalize aCZ (own.getD x.toNat [])=a
 generalize aCZ (own.getD i.toNat [])=b
 constructor <;> intro h <;> omega
theorem aSm (p:Int→Bool):∀ l:List Int,l.dropWhile p=[]∨∃ a r,l.dropWhile p=a::r∧¬ p a=true:=by
 intro l
 induction l with
 | nil=>exact .inl rfl
 | cons a l ih =>
  by_cases e:p a=true
  ·rw [List.dropWhile_cons_of_pos e];exact ih
  ·rw [List.dropWhile_cons_of_neg e];exact .inr ⟨a,l,rfl,e⟩
theorem aSF (p:Int→Bool):∀ (l:List Int) (x:Int),x ∈ l.takeWhile p→p x=true:=by
 intro l
 induction l with
 | nil=>intro x h;simp at h
 | cons a l ih =>
  intro x h
  by_cases e:p a=true
  ·rw [List.takeWhile_cons_of_pos e] at h
   rcases List.mem_cons.1 h with h | h
   ·subst h;exact e
   ·exact ih x h
  ·rw [List.takeWhile_cons_of_neg e] at h;simp at h
theorem aOW (l:List Int):l=[]∨∃ l1 x,l=l1++[x]:=by
 rcases List.eq_nil_or_concat l with h | ⟨a,b,h⟩
 ·exact .inl h
 ·exact .inr ⟨a,b,by rw [h];try simp⟩
theorem aM4 (own:List (List Int)) (l:List Int) (i:Int) (hs:aAO (aGW own) l) (hl:∀ s ∈ l,s < i):aAO (aGW own) (aGM own l i):=by
 have hs':aAO (aGW own) (l.takeWhile (aEE own i)++l.dropWhile (aEE own i)):=by rw [List.takeWhile_append_dropWhile];exact hs
 refine aIO hs' (by rw [List.takeWhile_append_dropWhile];exact hl) ?_ ?_
 ·intro q hq
  rcases aSm (aEE own i) l with h | ⟨a,r,h,ha⟩
  ·rw [h] at hq;simp at hq
  ·have h2:=(List.pairwise_append.1 hs').2.1
   rw [h] at hq h2
   have ka:=(aQ6 own i a).2 ha
   rcases List.mem_cons.1 hq with e | e
   ·subst e;exact ka
   ·have:=(List.pairwise_cons.1 h2).1 q e
    unfold aIk at this
    omega
 ·rcases aOW (l.takeWhile (aEE own i)) with h | ⟨l1,x,h⟩
  ·exact .inl h
  ·refine .inr ⟨l1,x,h,fun hk => ?_⟩
   exact (aQ6 own i x).1 hk (aSF _ l x (by rw [h];simp))
theorem aPa (own:List (List Int)):∀ (xs l:List Int),List.Perm (xs.foldl (aGM own) l) (l++xs):=by
 intro xs
 induction xs with
 | nil=>intro l;rw [List.append_nil];exact List.Perm.refl _
 | cons x xs ih =>
  intro l
  rw [List.foldl_cons]
  refine (ih _).trans ?_
  exact ((aJ5 own l x).append_right xs).trans List.perm_middle.symm
theorem aNr (own:List (List Int)):∀ (xs l:List Int),aAO (aGW own) l→xs.Pairwise (· < ·)→(∀ s ∈ l,∀ x ∈ xs,s < x)→aAO (aGW own) (xs.foldl (aGM own) l):=by
 intro xs
 induction xs with
 | nil=>intro l h _ _;exact h
 | cons x xs ih =>
  intro l h1 h2 h3
  rw [List.foldl_cons]
  rw [List.pairwise_cons] at h2
  refine ih _ (aM4 own l x h1 fun s hs=>h3 s hs x (by simp)) h2.2 fun s hs y hy => ?_
  rcases List.mem_cons.1 ((aJ5 own l x).mem_iff.1 hs) with e | e
  ·subst e;exact h2.1 y hy
  ·exact h3 s e y (by simp [hy])
theorem aMs (own:List (List Int)):aN1 own (aE3 own):=by
 refine ⟨?_,aNr own _ [] List.Pairwise.nil (aNl _) (by simp)⟩
 have:=aPa own (aCt own.length) []
 rwa [List.nil_append] at this
theorem aN1.eq {own:List (List Int)} {ord:List Int} (h:aN1 own ord):ord=aE3 own:=by
 obtain ⟨p1,s1⟩:=h
 obtain ⟨p2,s2⟩:=aMs own
 refine List.Perm.eq_of_pairwise (fun a b _ _ h1 h2 => ?_) s1 s2 (p1.trans p2.symm)
 unfold aIk at h1 h2
 omega
end Go.Proofs.Ytgeedikghjcebaa.Ai
namespace Go.Proofs.Ytgeedikghjcebaa.Ai
open Go Go.Proofs
set_option linter.unusedVariables false
set_option linter.unusedSimpArgs false
set_option maxRecDepth 10000
set_option maxHeartbeats 4000000
def aFp (rows:List (List Int)):RowT :=
 ⟨(aAV rows).2,(aIm (aAV rows).1 (aE3 (aAV rows).1)).1,(aIm (aAV rows).1 (aE3 (aAV rows).1)).2.1,(aIm (aAV rows).1 (aE3 (aAV rows).1)).2.2⟩
theorem aR9 {h:aA0} {d:Nat}:∀ l:List Int,∃ q,aAq (aAq (freeze h (d+1))) (eIs l)=some q∧q.map (·.map (·.1))=eIs l:=by
 intro l
 induction l with
 | nil=>exact ⟨[],rfl,rfl⟩
 | cons a l ih =>
  obtain ⟨q,e1,e2⟩:=ih
  have e3:aAq (freeze h (d+1)) [.int .i64 a]=some [(.int .i64 a,true)]:=rfl
  have e4:eIs (a::l)=[.int .i64 a]::eIs l:=rfl
  exact ⟨[(.int .i64 a,true)]::q,by rw [e4];simp only [aAq] at e3 ⊢;simp only [e3,e1],by rw [e4];simp [e2]⟩
theorem fzH {l:List Int} {i n:Nat} {h:aA0} {cc:Option Nat} {tl:List (List AV)} {b:Bool} (hi:h[i]?=some (.arr 0 1 b (eIs l++tl))) (hn:n=l.length) (d:Nat):∃ x c,freeze h (d+2) (.hsl i 0 0 n cc)=some (x,c)∧Li l x:=by
 subst hn
 obtain ⟨q,e1,e2⟩:=aR9 (h:=h) (d:=d) l
 have tk:(eIs l++tl).take l.length=eIs l:=List.take_left' (Zet l)
 have:=aFK (d:=d+1) (n:=l.length) (cc:=cc) (q:=q) hi (by rw [List.length_append,Zet];omega) (by rw [tk];exact e1)
 exact ⟨_,false,this,.inr ⟨false,by rw [e2]⟩⟩
theorem fzG {l:List Int} {w:AV} {h:aA0} {q:Option Nat} (ho:aAW l w h q) (d:Nat):∃ x c,freeze h (d+2) w=some (x,c)∧Li l x:=by
 rcases ho with ⟨h1,h2,_⟩ | ⟨i,c,_,h2,h3,h4⟩
 ·subst h2;exact ⟨.nilS,true,rfl,.inl ⟨h1,rfl⟩⟩
 ·subst h2;exact fzH h4 rfl d
theorem aRH {rows:List (List Int)} {v:AV} (hv:LiR rows v) (hn:rows.length≤1000000) (M:Nat) (hM:∀ r ∈ rows,r.length≤M) (hM1:M≤1000000) (hM2:rows.length*M+M≤9000000):∃ cs,RT (aFp rows) cs∧∀ H,lim G0.cfg (.func 53) [v] H=some (.agg cs,H):=by
 obtain ⟨ord,h,rv,vv,kv,Lb,q1,qv,qk,ho,run,o1,eb,lb,gv,gk⟩:=aRW hv hn M hM hM1 hM2
 rw [ho.eq] at eb lb gv gk
 obtain ⟨x1,c1,f1,g1⟩:=fzI o1 997
 have eb':h[Lb]?=some (.arr 0 1 true (eIs (aIm (aAV rows).1 (aE3 (aAV rows).1)).1++[])):=by rw [List.append_nil];exact eb
 obtain ⟨x2,c2,f2,g2⟩:=fzH (n:=(aAV rows).1.length) (cc:=none) eb' lb.symm 997
 obtain ⟨x3,c3,f3,g3⟩:=fzG gv 997
 obtain ⟨x4,c4,f4,g4⟩:=fzG gk 997
 have fz:freeze h 1000 (.agg [rv,.hsl Lb 0 0 (aAV rows).1.length none,vv,kv])=some (.agg [x1,x2,x3,x4],([(x1,c1),(x2,c2),(x3,c3),(x4,c4)]:List (AV × Bool)).all (·.2)):=by
  have:freeze h 1000 (.agg [rv,.hsl Lb 0 0 (aAV rows).1.length none,vv,kv])=(aAq (freeze h 999) [rv,.hsl Lb 0 0 (aAV rows).1.length none,vv,kv]).map fun l=>(.agg (l.map (·.1)),l.all (·.2)):=rfl
  rw [this]
  have m:aAq (freeze h 999) [rv,.hsl Lb 0 0 (aAV rows).1.length none,vv,kv]=some [(x1,c1),(x2,c2),(x3,c3),(x4,c4)]:=by simp only [aAq,f1,f2,f3,f4]
  rw [m]
  rfl
 exact ⟨[x1,x2,x3,x4],⟨x1,x2,x3,x4,rfl,g1,g2,g3,g4⟩,fun H=>aLb rfl rfl aPF 9000001 (aES (hv.fz H 999)) run fz rfl⟩
end Go.Proofs.Ytgeedikghjcebaa.Ai
namespace Go.Proofs.Ytgeedikghjcebaa.Ai
open Go Go.Proofs
set_option linter.unusedVariables false
set_option linter.unusedSimpArgs false
set_option maxRecDepth 10000
set_option maxHeartbeats 4000000
section
variable {v0 v1 w2 w3 w6 w7 w8 : AV}
end
end Go.Proofs.Ytgeedikghjcebaa.Ai
