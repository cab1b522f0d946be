/- Arguments: what a reading of plain data says of abstract values. -/
import Derived.Test.YtgeedikghjcebaamCAi23
namespace Go.Proofs.Ytgeedikghjcebaa.Ai
open Go Go.RowKit
open List renaming getElem?_eq_some_iff → Q0
set_option linter.unusedVariables false
set_option linter.unusedSimpArgs false
def Cs (w:World) (cs:List Value) (l:List AV):Prop:=aHy (fun _=>True) w cs.toArray l
theorem Cs.len {w:World} {cs:List Value} {l:List AV} (h:Cs w cs l):cs.length=l.length:=by simpa using h.1
theorem Cs.get {w:World} {cs:List Value} {l:List AV} (h:Cs w cs l) {j:Nat} {x:AV} (hx:l[j]?=some x):∃ v,cs[j]?=some v∧PRep (fun _=>True) w v x:=by
 have hj:j < cs.length:=by rw [h.len];exact (Q0.1 hx).1
 refine ⟨cs[j],by simp [hj],?_⟩
 have:=h.2 j x hx
 simpa [Array.getD,hj] using this
theorem Cs.mk {w:World} {cs:List Value} {l:List AV} (h1:cs.length=l.length) (h2:∀ (j:Nat) (x:AV),l[j]?=some x→∃ v,cs[j]?=some v∧PRep (fun _=>True) w v x):Cs w cs l:=by
 refine ⟨by simpa using h1,fun j x hx => ?_⟩
 obtain ⟨v,k1,k2⟩:=h2 j x hx
 have hj:j < cs.length:=(Q0.1 k1).1
 have:cs[j]=v:=by simpa [hj] using k1
 simpa [Array.getD,hj,this] using k2
theorem Cs.one {w:World} {v:Value} {x:AV} (h:PRep (fun _=>True) w v x):Cs w [v] [x] :=
 .mk rfl fun j y hj=>by
  cases j with
  | zero=>simp at hj;subst hj;exact ⟨v,rfl,h⟩
  | succ j=>simp at hj
theorem Cs.append {w:World} {cs cs':List Value} {l l':List AV} (h:Cs w cs l) (h':Cs w cs' l'):Cs w (cs++cs') (l++l'):=by
 have hl:=h.len
 refine .mk (by simp [hl,h'.len]) fun j x hj => ?_
 rw [List.getElem?_append] at hj ⊢
 split at hj
 ·rename_i hlt
  rw [if_pos (by omega)]
  exact h.get hj
 ·rename_i hlt
  rw [if_neg (by omega),hl]
  exact h'.get hj
theorem aFU {w:World} {a:Addr} {n:Nat} {cs:List Value} (h:w.cells? 0 a n=some cs) (hn:0 < n):a.spot=none∧cs.length=n∧∀ (j:Nat) (v:Value),cs[j]?=some v→w.cell? ⟨a.block,a.off+j,none⟩=some v:=by
 unfold World.cells? at h
 rw [if_pos (Nat.zero_le _)] at h
 have key:∀ (l:List Nat) (cs:List Value),l.mapM (fun i=>w.cell? (a.add i))=some cs→cs.length=l.length∧∀ (j:Nat) (v:Value),cs[j]?=some v→∃ i,l[j]?=some i∧w.cell? (a.add i)=some v:=by
  intro l
  induction l with
  | nil=>intro cs h;simp at h;subst h;exact ⟨rfl,fun j v h=>by simp at h⟩
  | cons i l ih =>
   intro cs h
   rw [List.mapM_cons] at h
   cases e:w.cell? (a.add i) with
   | none=>simp [e] at h
   | some v =>
    cases e2:l.mapM (fun i=>w.cell? (a.add i)) with
    | none=>simp [e,e2] at h
    | some vs =>
     simp [e,e2] at h;subst h
     obtain ⟨k1,k2⟩:=ih vs e2
     refine ⟨by simp [k1],fun j u hj => ?_⟩
     cases j with
     | zero=>simp at hj;subst hj;exact ⟨i,rfl,e⟩
     | succ j=>simpa using k2 j u (by simpa using hj)
 obtain ⟨k1,k2⟩:=key _ _ h
 simp only [List.length_range] at k1
 have hsp:a.spot=none:=by
  obtain ⟨i,h1,h2⟩:=k2 0 cs[0] (by simp [k1,hn])
  have hi:i=0:=by simpa [hn] using h1.symm
  subst hi
  have:a.add 0=a:=rfl
  rw [this] at h2
  unfold World.cell? at h2
  split at h2
  ·split at h2
   ·cases h2
   ·rename_i hs;simpa using hs
  ·cases h2
 refine ⟨hsp,k1,fun j v hj => ?_⟩
 obtain ⟨i,h1,h2⟩:=k2 j v hj
 have hlt:j < n:=by rw [← k1];exact (Q0.1 hj).1
 have hi:i=j:=by simpa [hlt] using h1.symm
 subst hi
 have:a.add i=⟨a.block,a.off+i,none⟩:=by
  unfold Addr.add
  split
  ·rename_i h0;subst h0;cases a;simp at hsp;subst hsp;rfl
  ·rfl
 rwa [this] at h2
section
variable {H : Type} {enc : TypeId × Value → H} {P : Program} {w : World} {n : Nat} {t : TypeId} {cs : List Value} {d : DataW H} {ps : List MemPlace}
abbrev Tr (enc:TypeId × Value→H) (P:Program) (w:World) (n:Nat) (t:TypeId) (cs:List Value) (d:DataW H) (ps:List MemPlace):Prop :=
 DataW.trod enc P w 0 (fun _=>true) true n t cs=some (d,ps)
theorem aIW {k:IntKind} (hu:P.underlying t=some (.int k)) (h:Tr enc P w n t cs d ps):∃ i:Int,cs=[.int k i]∧(Lit.int k i).wf=true∧Cs w cs [.int k i]:=by
 cases n with
 | zero=>simp [Tr,DataW.trod] at h
 | succ n =>
  unfold Tr DataW.trod at h
  rw [hu] at h
  cases cs with
  | nil=>simp at h
  | cons v r =>
   cases r with
   | cons u r=>simp at h
   | nil =>
    cases v <;> simp at h
    obtain ⟨⟨rfl,hw⟩,_⟩:=h
    exact ⟨_,rfl,hw,.one (.int _ _)⟩
theorem aIj {α β:Type} {f:α→Option β}:∀ {l:List α} {r:List β},l.mapM f=some r→r.length=l.length∧∀ (j:Nat) (x:α),l[j]?=some x→∃ y,r[j]?=some y∧f x=some y
 | [],r,h=>by simp at h;subst h;exact ⟨rfl,fun j x h=>by simp at h⟩
 | a::l,r,h=>by
  rw [List.mapM_cons] at h
  cases e:f a with
  | none=>simp [e] at h
  | some y =>
   cases e2:l.mapM f with
   | none=>simp [e,e2] at h
   | some ys =>
    simp [e,e2] at h;subst h
    obtain ⟨k1,k2⟩:=aIj e2
    refine ⟨by simp [k1],fun j x hj => ?_⟩
    cases j with
    | zero=>simp at hj;subst hj;exact ⟨y,rfl,e⟩
    | succ j=>simpa using k2 j x (by simpa using hj)
end
end Go.Proofs.Ytgeedikghjcebaa.Ai
