/- Arguments: what a reading of plain data says of abstract values. -/
import Derived.Test.YteenffomgdfocaamCAi23
namespace Go.Proofs.Yteenffomgdfocaa.Ai
open Go Go.RowKit
open List renaming getElem?_eq_some_iff → Q0, getElem?_eq_none → Q1
set_option linter.unusedVariables false
set_option linter.unusedSimpArgs false
def Cs (w:World) (cs:List Value) (l:List AV):Prop:=aGp (fun _=>True) w cs.toArray l
theorem Cs.len {w:World} {cs:List Value} {l:List AV} (h:Cs w cs l):cs.length=l.length:=by simpa using h.1
theorem Cs.get {w:World} {cs:List Value} {l:List AV} (h:Cs w cs l) {j:Nat} {x:AV} (hx:l[j]?=some x):∃ v,cs[j]?=some v∧PRep (fun _=>True) w v x:=by
 have hj:j < cs.length:=by rw [h.len];exact (Q0.1 hx).1
 refine ⟨cs[j],by simp [hj],?_⟩
 have:=h.2 j x hx
 simpa [Array.getD,hj] using this
theorem Cs.mk {w:World} {cs:List Value} {l:List AV} (h1:cs.length=l.length) (h2:∀ (j:Nat) (x:AV),l[j]?=some x→∃ v,cs[j]?=some v∧PRep (fun _=>True) w v x):Cs w cs l:=by
 refine ⟨by simpa using h1,fun j x hx => ?_⟩
 obtain ⟨v,k1,k2⟩:=h2 j x hx
 have hj:j < cs.length:=(Q0.1 k1).1
 have:cs[j]=v:=by simpa [hj] using k1
 simpa [Array.getD,hj,this] using k2
theorem Cs.one {w:World} {v:Value} {x:AV} (h:PRep (fun _=>True) w v x):Cs w [v] [x] :=
 .mk rfl fun j y hj=>by
  cases j with
  | zero=>simp at hj;subst hj;exact ⟨v,rfl,h⟩
  | succ j=>simp at hj
theorem Cs.append {w:World} {cs cs':List Value} {l l':List AV} (h:Cs w cs l) (h':Cs w cs' l'):Cs w (cs++cs') (l++l'):=by
 have hl:=h.len
 refine .mk (by simp [hl,h'.len]) fun j x hj => ?_
 rw [List.getElem?_append] at hj ⊢
 split at hj
 ·rename_i hlt
  rw [if_pos (by omega)]
  exact h.get hj
 ·rename_i hlt
  rw [if_neg (by omega),hl]
  exact h'.get hj
theorem aC5 {w:World} {a:Addr} {n:Nat} {cs:List Value} (h:w.cells? 0 a n=some cs) (hn:0 < n):a.spot=none∧cs.length=n∧∀ (j:Nat) (v:Value),cs[j]?=some v→w.cell? ⟨a.block,a.off+j,none⟩=some v:=by
 unfold World.cells? at h
 rw [if_pos (Nat.zero_le _)] at h
 have key:∀ (l:List Nat) (cs:List Value),l.mapM (fun i=>w.cell? (a.add i))=some cs→cs.length=l.length∧∀ (j:Nat) (v:Value),cs[j]?=some v→∃ i,l[j]?=some i∧w.cell? (a.add i)=some v:=by
  intro l
  induction l with
  | nil=>intro cs h;simp at h;subst h;exact ⟨rfl,fun j v h=>by simp at h⟩
  | cons i l ih =>
   intro cs h
   rw [List.mapM_cons] at h
   cases e:w.cell? (a.add i) with
   | none=>simp [e] at h
   | some v =>
    cases e2:l.mapM (fun i=>w.cell? (a.add i)) with
    | none=>simp [e,e2] at h
    | some vs =>
     simp [e,e2] at h;subst h
     obtain ⟨k1,k2⟩:=ih vs e2
     refine ⟨by simp [k1],fun j u hj => ?_⟩
     cases j with
     | zero=>simp at hj;subst hj;exact ⟨i,rfl,e⟩
     | succ j=>simpa using k2 j u (by simpa using hj)
 obtain ⟨k1,k2⟩:=key _ _ h
 simp only [List.length_range] at k1
 have hsp:a.spot=none:=by
  obtain ⟨i,h1,h2⟩:=k2 0 cs[0] (by simp [k1,hn])
  have hi:i=0:=by simpa [hn] using h1.symm
  subst hi
  have:a.add 0=a:=rfl
  rw [this] at h2
  unfold World.cell? at h2
  split at h2
  ·split at h2
   ·cases h2
   ·rename_i hs;simpa using hs
  ·cases h2
 refine ⟨hsp,k1,fun j v hj => ?_⟩
 obtain ⟨i,h1,h2⟩:=k2 j v hj
 have hlt:j < n:=by rw [← k1];exact (Q0.1 hj).1
 have hi:i=j:=by simpa [hlt] using h1.symm
 subst hi
 have:a.add i=⟨a.block,a.off+i,none⟩:=by
  unfold Addr.add
  split
  ·rename_i h0;subst h0;cases a;simp at hsp;subst hsp;rfl
  ·rfl
 rwa [this] at h2
section
variable {H : Type} {enc : TypeId × Value → H} {P : Program} {w : World} {n : Nat} {t : TypeId} {cs : List Value} {d : DataW H} {ps : List MemPlace}
abbrev Tr (enc:TypeId × Value→H) (P:Program) (w:World) (n:Nat) (t:TypeId) (cs:List Value) (d:DataW H) (ps:List MemPlace):Prop :=
 DataW.trod enc P w 0 (fun _=>true) true n t cs=some (d,ps)
theorem aFM {k:IntKind} (hu:P.underlying t=some (.int k)) (h:Tr enc P w n t cs d ps):∃ i:Int,cs=[.int k i]∧(Lit.int k i).wf=true∧Cs w cs [.int k i]:=by
 cases n with
 | zero=>simp [Tr,DataW.trod] at h
 | succ n =>
  unfold Tr DataW.trod at h
  rw [hu] at h
  cases cs with
  | nil=>simp at h
  | cons v r =>
   cases r with
   | cons u r=>simp at h
   | nil =>
    cases v <;> simp at h
    obtain ⟨⟨rfl,hw⟩,_⟩:=h
    exact ⟨_,rfl,hw,.one (.int _ _)⟩
theorem aRJ (hu:P.underlying t=some .string) (h:Tr enc P w n t cs d ps):∃ s:List UInt8,Cs w cs [.str s]∧cs.length=1:=by
 cases n with
 | zero=>simp [Tr,DataW.trod] at h
 | succ n =>
  unfold Tr DataW.trod at h
  rw [hu] at h
  cases cs with
  | nil=>simp at h
  | cons v r =>
   cases r with
   | cons u r=>simp at h
   | nil =>
    cases v <;> simp at h
    exact ⟨_,.one (.str _),rfl⟩
theorem aEh {α β:Type} {f:α→Option β}:∀ {l:List α} {r:List β},l.mapM f=some r→r.length=l.length∧∀ (j:Nat) (x:α),l[j]?=some x→∃ y,r[j]?=some y∧f x=some y
 | [],r,h=>by simp at h;subst h;exact ⟨rfl,fun j x h=>by simp at h⟩
 | a::l,r,h=>by
  rw [List.mapM_cons] at h
  cases e:f a with
  | none=>simp [e] at h
  | some y =>
   cases e2:l.mapM f with
   | none=>simp [e,e2] at h
   | some ys =>
    simp [e,e2] at h;subst h
    obtain ⟨k1,k2⟩:=aEh e2
    refine ⟨by simp [k1],fun j x hj => ?_⟩
    cases j with
    | zero=>simp at hj;subst hj;exact ⟨y,rfl,e⟩
    | succ j=>simpa using k2 j x (by simpa using hj)
theorem aEe {X:Type} {e:TypeId} (hu:P.underlying t=some (.slice e)) (hn:0 < P.cellsOf e) {en:X→List AV} (he:∀ (m:Nat) (cs:List Value) (d:DataW H) (ps:List MemPlace),m+1=n→Tr enc P w m e cs d ps→∃ x,Cs w cs (en x))
  (h:Tr enc P w n t cs d ps):∃ xs:List X,Cs w cs [.vsl false (xs.map en)]∧cs.length=1∧xs.length≤maxLen:=by
 cases n with
 | zero=>simp [Tr,DataW.trod] at h
 | succ n =>
  unfold Tr DataW.trod at h
  rw [hu] at h
  cases cs with
  | nil=>simp at h
  | cons v r =>
   cases r with
   | cons u r=>simp at h
   | nil =>
    cases v with
    | slice a len cap =>
     cases a with
     | none =>
      cases len with
      | succ len=>simp at h
      | zero =>
       cases cap with
       | succ cap=>simp at h
       | zero=>exact ⟨[],.one (.vsl0 false),rfl,Nat.zero_le _⟩
     | some a =>
      simp only at h
      split at h
      ·rename_i hc
       cases hm:(List.range len).mapM (fun i=>(w.cells? 0 (a.add (i*P.cellsOf e)) (P.cellsOf e)).bind (DataW.trod enc P w 0 (fun _=>true) true n e)) with
       | none=>simp only [hm] at h;cases h
       | some elems =>
        obtain ⟨k1,k2⟩:=aEh hm
        simp only [List.length_range] at k1
        -- the elements
        have el:∀ i,i < len→∃ (x:X) (cs:List Value),w.cells? 0 (a.add (i*P.cellsOf e)) (P.cellsOf e)=some cs∧Cs w cs (en x):=by
         intro i hi
         obtain ⟨y,_,h2⟩:=k2 i i (by simp [hi])
         cases hcs:w.cells? 0 (a.add (i*P.cellsOf e)) (P.cellsOf e) with
         | none=>simp [hcs] at h2
         | some cs =>
          simp only [hcs,Option.bind_some] at h2
          obtain ⟨x,hx⟩:=he n cs y.1 y.2 rfl h2
          exact ⟨x,cs,rfl,hx⟩
        by_cases h0:len=0
        ·subst h0
         refine ⟨[],.one ?_,rfl,Nat.zero_le _⟩
         by_cases hcap:cap=0
         ·subst hcap;exact .vslE a false
         ·-- a spare cell is read
          have hsp:a.spot=none:=by
           simp only [if_true] at h
           cases hm2:(List.range (cap - 0)).mapM (fun j=>(w.cells? 0 (a.add ((0+j)*P.cellsOf e)) (P.cellsOf e)).bind (DataW.trod enc P w 0 (fun _=>true) true n e)) with
           | none=>simp only [hm,Option.bind_some,hm2] at h;cases h
           | some rest =>
            obtain ⟨_,q2⟩:=aEh hm2
            obtain ⟨y,_,h2⟩:=q2 0 0 (by rw [List.getElem?_range];omega)
            cases hcs:w.cells? 0 (a.add ((0+0)*P.cellsOf e)) (P.cellsOf e) with
            | none=>rw [hcs] at h2;cases h2
            | some cs =>
             have:=(aC5 hcs hn).1
             simpa [Addr.add] using this
          obtain ⟨b,o,sp⟩:=a
          simp only at hsp;subst hsp
          exact .vsl b o (P.cellsOf e) cap false [] (fun _ _=>Go.undef) (Nat.zero_le _) (fun h=>by cases h) (fun e c h=>by simp at h) (fun e c j x h=>by simp at h) (fun e c j x h=>by simp at h)
        ·-- at least one
         have hsp:a.spot=none:=by
          obtain ⟨x,cs,h1,_⟩:=el 0 (by omega)
          have:=(aC5 h1 hn).1
          simpa [Addr.add] using this
         obtain ⟨b,o,sp⟩:=a
         simp only at hsp;subst hsp
         have hadd:∀ i,(Addr.add ⟨b,o,none⟩ i)=⟨b,o+i,none⟩:=fun i=>by
          unfold Addr.add;split
          ·rename_i h;subst h;rfl
          ·rfl
         let xs:List X:=(List.range len).pmap (fun i hi=>Classical.choose (el i hi)) (fun i hi=>by simpa using hi)
         have hxl:xs.length=len:=by simp [xs]
         have hxg:∀ (i:Nat) (hi:i < len),xs[i]?=some (Classical.choose (el i hi)):=fun i hi=>by simp [xs,hi]
         have hsp:∀ (i:Nat) (hi:i < len),∃ cs:List Value,w.cells? 0 (Addr.add ⟨b,o,none⟩ (i*P.cellsOf e)) (P.cellsOf e)=some cs∧Cs w cs (en (Classical.choose (el i hi))):=fun i hi=>Classical.choose_spec (el i hi)
         refine ⟨xs,.one ?_,rfl,by rw [hxl];omega⟩
         have key:PRep (fun _=>True) w (.slice (some ⟨b,o,none⟩) (xs.map en).length cap) (.vsl false (xs.map en)):=by
          refine .vsl b o (P.cellsOf e) cap false (xs.map en) (fun e' j=>(w.cell? ⟨b,o+e'*P.cellsOf e+j,none⟩).getD Go.undef) (by simp [hxl];exact hc.2.1) (fun h=>by cases h) ?_ ?_ ?_
          ·intro i c hi
           rw [List.getElem?_map] at hi
           have hil:i < len:=by
            rcases Nat.lt_or_ge i len with h | h
            ·exact h
            ·rw [Q1 (by rw [hxl];exact h)] at hi;cases hi
           rw [hxg i hil] at hi
           simp at hi;subst hi
           obtain ⟨cs,h1,h2⟩:=hsp i hil
           rw [← h2.len];exact (aC5 h1 hn).2.1
          ·intro i c j x hi hj
           rw [List.getElem?_map] at hi
           have hil:i < len:=by
            rcases Nat.lt_or_ge i len with h | h
            ·exact h
            ·rw [Q1 (by rw [hxl];exact h)] at hi;cases hi
           rw [hxg i hil] at hi
           simp at hi;subst hi
           obtain ⟨cs,h1,h2⟩:=hsp i hil
           obtain ⟨v,h3,h4⟩:=h2.get hj
           have h5:=(aC5 h1 hn).2.2 j v h3
           rw [hadd] at h5
           exact ⟨trivial,by rw [h5];rfl⟩
          ·intro i c j x hi hj
           rw [List.getElem?_map] at hi
           have hil:i < len:=by
            rcases Nat.lt_or_ge i len with h | h
            ·exact h
            ·rw [Q1 (by rw [hxl];exact h)] at hi;cases hi
           rw [hxg i hil] at hi
           simp at hi;subst hi
           obtain ⟨cs,h1,h2⟩:=hsp i hil
           obtain ⟨v,h3,h4⟩:=h2.get hj
           have h5:=(aC5 h1 hn).2.2 j v h3
           rw [hadd] at h5
           rw [h5];exact h4
         rw [List.length_map,hxl] at key
         exact key
      ·cases h
    | _=>simp at h
theorem aHo {fs:Array Field} (hu:P.underlying t=some (.struct fs)) (h:Tr enc P w n t cs d ps):∃ m,n=m+1∧cs.length=P.cellsOf t∧∀ (i:Nat) (f:Field),fs[i]?=some f→∃ d' ps',Tr enc P w m f.type ((cs.drop f.offset).take (P.cellsOf f.type)) d' ps':=by
 cases n with
 | zero=>simp [Tr,DataW.trod] at h
 | succ n =>
  unfold Tr DataW.trod at h
  rw [hu] at h
  simp only at h
  split at h
  ·rename_i hl
   refine ⟨n,rfl,hl,fun i f hi => ?_⟩
   cases hm:fs.toList.mapM (fun f=>DataW.trod enc P w 0 (fun _=>true) true n f.type ((cs.drop f.offset).take (P.cellsOf f.type))) with
   | none=>simp only [hm] at h;cases h
   | some xs =>
    obtain ⟨_,k2⟩:=aEh hm
    obtain ⟨y,_,h2⟩:=k2 i f (by simpa using hi)
    exact ⟨y.1,y.2,h2⟩
  ·cases h
end
end Go.Proofs.Yteenffomgdfocaa.Ai
