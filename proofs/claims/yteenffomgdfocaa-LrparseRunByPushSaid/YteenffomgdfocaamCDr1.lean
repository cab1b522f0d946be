/- A region in whatever order, decided when it is run: the part without the model. -/
import Derived.Test.YteenffomgdfocaamCAi17
namespace Go.Proofs.Yteenffomgdfocaa.Ai
open Go
open List renaming getD_eq_getElem?_getD → Q0
set_option linter.unusedVariables false
set_option linter.unusedSimpArgs false
inductive IsoS (m:Nat):St→St→Prop where
 | refl (s:St):IsoS m s s
 | swap (i j:Nat) (s u:St) (hi:m≤i) (hj:m≤j) (hij:i≠j) (li:i < s.h.length) (lj:j < s.h.length) (h:IsoS m (aNZ i j s) u):IsoS m s u
theorem IsoS.trans {m:Nat} {a b c:St} (h:IsoS m a b) (k:IsoS m b c):IsoS m a c:=by
 induction h with
 | refl s=>exact k
 | swap i j s u hi hj hij li lj h ih=>exact .swap i j s _ hi hj hij li lj (ih k)
theorem aKC {m:Nat}:∀ (ps:List (Nat × Nat)) (a s:St),aLu m ps a=some s→IsoS m a s
 | [],a,s,h=>by cases h;exact .refl _
 | (i,j)::r,a,s,h=>by
  simp only [aLu] at h
  split at h
  ·rename_i hc
   simp only [Bool.and_eq_true,Nat.ble_eq,Bool.not_eq_true'] at hc
   obtain ⟨⟨⟨⟨h1,h2⟩,h3⟩,h4⟩,h5⟩:=hc
   exact .swap i j a s h1 h2 (fun e=>by subst e;rw [Nat.beq_refl] at h3;cases h3) (by omega) (by omega) (aKC r _ s h)
  ·cases h
theorem aLJ {m:Nat} {o:Option St} {s:St} (h:aFB m o (some s)=true):∃ a,o=some a∧IsoS m a s:=by
 cases o with
 | none=>simp [aFB] at h
 | some a =>
  refine ⟨a,rfl,?_⟩
  simp only [aFB,Bool.or_eq_true,aKF,decide_eq_true_eq,Option.some.injEq] at h
  rcases h with h | h
  ·subst h;exact .refl _
  ·exact aKC _ a s h
theorem aO2 (m:Nat) (s:St):aFB m (some s) (some s)=true:=by
 simp only [aFB,aKF,decide_true,Bool.true_or]
def aEB (run:Nat→St→Option St) (ws:List (List Nat)):Nat→List Bool→St→(St→Prop)→Prop
 | 0,listed,s,Q=>rdy ws listed=[]∧Q s
 | n+1,listed,s,Q=>(rdy ws listed=[]→Q s)∧∀ i ∈ rdy ws listed,∃ u,run i s=some u∧aEB run ws n (listed.set i true) u Q
theorem aEB.mono {run:Nat→St→Option St} {ws:List (List Nat)} {Q Q':St→Prop} (hQ:∀ s,Q s→Q' s):∀ (n:Nat) (listed:List Bool) (s:St),aEB run ws n listed s Q→aEB run ws n listed s Q'
 | 0,listed,s,h=>⟨h.1,hQ s h.2⟩
 | n+1,listed,s,h=>⟨fun e=>hQ s (h.1 e),fun i hi=>by
   obtain ⟨u,h1,h2⟩:=h.2 i hi
   exact ⟨u,h1,aEB.mono hQ n _ u h2⟩⟩
theorem aFK {ws:List (List Nat)} {listed:List Bool} {i:Nat}:i ∈ rdy ws listed↔i < ws.length∧listed.getD i true=false∧∀ k ∈ ws.getD i [],listed.getD k false=true:=by
 simp [rdy,and_assoc]
theorem aFU {l:List Bool} {i j:Nat} (h:i≠j) (d b:Bool):(l.set i b).getD j d=l.getD j d:=by
 simp [Q0,List.getElem?_set_ne h]
theorem aL1 {l:List Bool} {i j:Nat} (d:Bool) (h:l.getD j d=true):(l.set i true).getD j d=true:=by
 by_cases e:i=j
 ·subst e
  rw [Q0,List.getElem?_set] at *
  simp only [if_true]
  split
  ·rfl
  ·rename_i hlt
   rw [List.getElem?_eq_none (by omega)] at h
   exact h
 ·rw [aFU e];exact h
theorem aK9 {ws:List (List Nat)} {listed:List Bool} {i j:Nat} (hj:j ∈ rdy ws listed) (h:j≠i):j ∈ rdy ws (listed.set i true):=by
 obtain ⟨h1,h2,h3⟩:=aFK.1 hj
 exact aFK.2 ⟨h1,by rw [aFU (Ne.symm h)];exact h2,fun k hk=>aL1 _ (h3 k hk)⟩
theorem aNg {run:Nat→St→Option St} {ws:List (List Nat)} {sw:Nat→Nat→Bool} (hsw:∀ i j s u v,sw i j=true→run i s=some u→run j u=some v→∃ z,run j s=some z∧run i z=some v) {i:Nat} {s':St→Prop} :
  ∀ (n:Nat) (listed:List Bool) (s u:St),(∀ j,j < ws.length→j≠i→listed.getD j true=false→i ∉ ws.getD j []→sw i j=true)→i ∈ rdy ws listed→run i s=some u→aEB run ws n (listed.set i true) u s'→aEB run ws (n+1) listed s s':=by
 intro n
 induction n with
 | zero =>
  intro listed s u hf hi hr H
  refine ⟨fun h=>(by rw [h] at hi;cases hi),fun j hj => ?_⟩
  by_cases e:j=i
  ·subst e;exact ⟨u,hr,H⟩
  ·have:=aK9 hj e
   rw [H.1] at this;cases this
 | succ n ih =>
  intro listed s u hf hi hr H
  refine ⟨fun h=>(by rw [h] at hi;cases hi),fun j hj => ?_⟩
  by_cases e:j=i
  ·subst e;exact ⟨u,hr,H⟩
  ·obtain ⟨v,h1,h2⟩:=H.2 j (aK9 hj e)
   obtain ⟨j1,j2,j3⟩:=aFK.1 hj
   obtain ⟨i1,i2,i3⟩:=aFK.1 hi
   have hnot:i ∉ ws.getD j []:=fun hm=>by
    have:=j3 i hm
    have hl:i < listed.length:=by
     rcases Nat.lt_or_ge i listed.length with h | h
     ·exact h
     ·rw [Q0,List.getElem?_eq_none h] at this;cases this
    rw [Q0,List.getElem?_eq_getElem hl] at this i2
    simp at this i2
    rw [this] at i2;cases i2
   obtain ⟨z,k1,k2⟩:=hsw i j s u v (hf j j1 e j2 hnot) hr h1
   refine ⟨z,k1,ih (listed.set j true) z v (fun k hk hki hl hn=>hf k hk hki ?_ hn) (aK9 hi (Ne.symm e)) k2 ?_⟩
   ·by_cases ejk:j=k
    ·subst ejk;exact j2
    ·rw [aFU ejk] at hl;exact hl
   ·rw [List.set_comm _ _ e];exact h2
theorem aGv {run:Nat→St→Option St} {ws:List (List Nat)} {sw:Nat→Nat→Bool} {m:Nat} (hsw:∀ i j s u v,sw i j=true→run i s=some u→run j u=some v→∃ z,run j s=some z∧run i z=some v) :
  ∀ (n:Nat) (listed:List Bool) (s s':St),aAK run ws sw m n listed s=some s'→aEB run ws n listed s (fun u=>IsoS m u s')
 | 0,listed,s,s',h=>by
  simp only [aAK] at h
  split at h
  ·rename_i hr;cases h;exact ⟨hr,.refl _⟩
  ·cases h
 | n+1,listed,s,s',h=>by
  simp only [aAK] at h
  split at h
  ·rename_i i hf
   have hi:i ∈ rdy ws listed:=List.mem_of_find?_eq_some hf
   have hok:=List.find?_some hf
   cases hr:run i s with
   | none=>simp [hr] at h
   | some u =>
    simp only [hr,Option.bind_some] at h
    refine aNg hsw n listed s u (fun j hj hji hl hn => ?_) hi hr (aGv hsw n _ u s' h)
    simp only [aIb,List.all_eq_true,List.mem_range] at hok
    have:=hok j hj
    simp only [Bool.or_eq_true,beq_iff_eq,List.contains_iff_mem] at this
    rcases this with ((h1 | h1) | h1) | h1
    ·exact absurd h1 hji
    ·rw [hl] at h1;cases h1
    ·exact absurd h1 hn
    ·exact h1
  ·split at h
   ·rename_i hr
    cases h
    exact ⟨fun _=>.refl _,fun i hi=>by rw [hr] at hi;cases hi⟩
   ·rename_i i rest hr
    split at h
    ·cases h
    ·rename_i s1 h1
     split at h
     ·rename_i hall
      cases h
      refine ⟨fun e=>(by rw [hr] at e;cases e),fun j hj => ?_⟩
      have fin:∀ j s1,IsoS m s1 s'→(run j s).bind (aAK run ws sw m n (listed.set j true))=some s1→∃ u,run j s=some u∧aEB run ws n (listed.set j true) u (fun u=>IsoS m u s'):=fun j s1 hI hj=>by
       cases hrj:run j s with
       | none=>simp [hrj] at hj
       | some u=>simp only [hrj,Option.bind_some] at hj;exact ⟨u,rfl,aEB.mono (fun q hq=>hq.trans hI) n _ u (aGv hsw n _ u s1 hj)⟩
      rw [hr] at hj
      rcases List.mem_cons.1 hj with rfl | hj
      ·exact fin _ _ (.refl _) h1
      ·obtain ⟨s2,h2,h3⟩:=aLJ (List.all_eq_true.1 hall j hj)
       exact fin j s2 h3 h2
     ·cases h
end Go.Proofs.Yteenffomgdfocaa.Ai
