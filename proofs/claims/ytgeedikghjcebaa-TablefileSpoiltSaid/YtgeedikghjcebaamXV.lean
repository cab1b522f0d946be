/- Readings of arguments, their weights kept. -/
import Derived.Test.YtgeedikghjcebaamAi27
import Derived.SizedLaws
import Derived.Test.YtgeedikghjcebaamXB
import Derived.Test.YtgeedikghjcebaaRows
import Derived.ProofKit
import Derived.WalkKit
import Derived.Test.YtgeedikghjcebaamXL
namespace Go.Proofs.Ytgeedikghjcebaa.Ai
open Go
open List renaming getElem?_eq_none → Q0
set_option linter.unusedVariables false
set_option linter.unusedSimpArgs false
section
variable {H : Type} {enc : TypeId × Value → H} {P : Program} {w : World} {n : Nat} {t : TypeId} {cs : List Value} {d : DataW H} {ps : List MemPlace}
theorem aHO {P:Program} {e:TypeId}:∀ (l:List (DataW H)) (d:DataW H),d ∈ l→∀ k ∈ d.weights P e,k ∈ DataW.weightsAll P e l
 | [],d,h,k,hk=>by cases h
 | x::l,d,h,k,hk=>by
  simp only [DataW.weightsAll,List.mem_append]
  rcases List.mem_cons.1 h with rfl | h
  ·exact .inl hk
  ·exact .inr (aHO l d h k hk)
theorem aOU {X:Type} {e:TypeId} (hu:P.underlying t=some (.slice e)) (hn:0 < P.cellsOf e) {en:X→List AV} (he:∀ (m:Nat) (cs:List Value) (d:DataW H) (ps:List MemPlace),m+1=n→Tr enc P w m e cs d ps→(∀ k ∈ d.weights P e,k≤reachBytes)→∃ x,Cs w cs (en x))
  (h:Tr enc P w n t cs d ps) (hW:∀ k ∈ d.weights P t,k≤reachBytes):∃ xs:List X,Cs w cs [.vsl false (xs.map en)]∧cs.length=1∧xs.length≤maxLen∧xs.length*P.bytesOf e≤reachBytes:=by
 cases n with
 | zero=>simp [Tr,DataW.trod] at h
 | succ n =>
  unfold Tr DataW.trod at h
  rw [hu] at h
  cases cs with
  | nil=>simp at h
  | cons v r =>
   cases r with
   | cons u r=>simp at h
   | nil =>
    cases v with
    | slice a len cap =>
     cases a with
     | none =>
      cases len with
      | succ len=>simp at h
      | zero =>
       cases cap with
       | succ cap=>simp at h
       | zero=>exact ⟨[],.one (.vsl0 false),rfl,Nat.zero_le _,by simp⟩
     | some a =>
      simp only at h
      split at h
      ·rename_i hc
       cases hm:(List.range len).mapM (fun i=>(w.cells? 0 (a.add (i*P.cellsOf e)) (P.cellsOf e)).bind (DataW.trod enc P w 0 (fun _=>true) true n e)) with
       | none=>simp only [hm] at h;cases h
       | some elems =>
        obtain ⟨k1,k2⟩:=aIj hm
        simp only [List.length_range] at k1
        have hd:∃ rest:List (DataW H),d=.slice (elems.map (·.1)) rest:=by
         simp only [hm,Option.bind_some] at h
         split at h
         ·cases hm2:(List.range (cap - len)).mapM (fun j=>(w.cells? 0 (a.add ((len+j)*P.cellsOf e)) (P.cellsOf e)).bind (DataW.trod enc P w 0 (fun _=>true) true n e)) with
          | none=>rw [hm2] at h;cases h
          | some rest=>rw [hm2] at h;simp at h;exact ⟨_,h.1.symm⟩
         ·simp at h;exact ⟨_,h.1.symm⟩
        obtain ⟨rest,hd⟩:=hd
        have hWe:∀ y ∈ elems,∀ k ∈ y.1.weights P e,k≤reachBytes:=by
         intro y hy k hk
         apply hW k
         rw [hd]
         simp only [DataW.weights,hu,List.mem_cons,List.mem_append]
         refine .inr (.inl (aHO _ y.1 (List.mem_map_of_mem hy) k hk))
        have hlw:len*P.bytesOf e≤reachBytes:=by
         have k3:=hW (((elems.map (·.1)).length+rest.length)*P.bytesOf e) (by rw [hd];simp [DataW.weights,hu])
         rw [List.length_map,k1] at k3
         exact Nat.le_trans (Nat.mul_le_mul_right _ (Nat.le_add_right _ _)) k3
        -- the elements
        have el:∀ i,i < len→∃ (x:X) (cs:List Value),w.cells? 0 (a.add (i*P.cellsOf e)) (P.cellsOf e)=some cs∧Cs w cs (en x):=by
         intro i hi
         obtain ⟨y,hy,h2⟩:=k2 i i (by simp [hi])
         cases hcs:w.cells? 0 (a.add (i*P.cellsOf e)) (P.cellsOf e) with
         | none=>simp [hcs] at h2
         | some cs =>
          simp only [hcs,Option.bind_some] at h2
          obtain ⟨x,hx⟩:=he n cs y.1 y.2 rfl h2 (hWe y (List.mem_of_getElem? hy))
          exact ⟨x,cs,rfl,hx⟩
        by_cases h0:len=0
        ·subst h0
         refine ⟨[],.one ?_,rfl,Nat.zero_le _,by simp⟩
         by_cases hcap:cap=0
         ·subst hcap;exact .vslE a false
         ·-- a spare cell is read
          have hsp:a.spot=none:=by
           simp only [if_true] at h
           cases hm2:(List.range (cap - 0)).mapM (fun j=>(w.cells? 0 (a.add ((0+j)*P.cellsOf e)) (P.cellsOf e)).bind (DataW.trod enc P w 0 (fun _=>true) true n e)) with
           | none=>simp only [hm,Option.bind_some,hm2] at h;cases h
           | some rest =>
            obtain ⟨_,q2⟩:=aIj hm2
            obtain ⟨y,_,h2⟩:=q2 0 0 (by rw [List.getElem?_range];omega)
            cases hcs:w.cells? 0 (a.add ((0+0)*P.cellsOf e)) (P.cellsOf e) with
            | none=>rw [hcs] at h2;cases h2
            | some cs =>
             have:=(aFU hcs hn).1
             simpa [Addr.add] using this
          obtain ⟨b,o,sp⟩:=a
          simp only at hsp;subst hsp
          exact .vsl b o (P.cellsOf e) cap false [] (fun _ _=>Go.undef) (Nat.zero_le _) (fun h=>by cases h) (fun e c h=>by simp at h) (fun e c j x h=>by simp at h) (fun e c j x h=>by simp at h)
        ·-- at least one
         have hsp:a.spot=none:=by
          obtain ⟨x,cs,h1,_⟩:=el 0 (by omega)
          have:=(aFU h1 hn).1
          simpa [Addr.add] using this
         obtain ⟨b,o,sp⟩:=a
         simp only at hsp;subst hsp
         have hadd:∀ i,(Addr.add ⟨b,o,none⟩ i)=⟨b,o+i,none⟩:=fun i=>by
          unfold Addr.add;split
          ·rename_i h;subst h;rfl
          ·rfl
         let xs:List X:=(List.range len).pmap (fun i hi=>Classical.choose (el i hi)) (fun i hi=>by simpa using hi)
         have hxl:xs.length=len:=by simp [xs]
         have hxg:∀ (i:Nat) (hi:i < len),xs[i]?=some (Classical.choose (el i hi)):=fun i hi=>by simp [xs,hi]
         have hsp:∀ (i:Nat) (hi:i < len),∃ cs:List Value,w.cells? 0 (Addr.add ⟨b,o,none⟩ (i*P.cellsOf e)) (P.cellsOf e)=some cs∧Cs w cs (en (Classical.choose (el i hi))):=fun i hi=>Classical.choose_spec (el i hi)
         refine ⟨xs,.one ?_,rfl,by rw [hxl];omega,by rw [hxl];exact hlw⟩
         have key:PRep (fun _=>True) w (.slice (some ⟨b,o,none⟩) (xs.map en).length cap) (.vsl false (xs.map en)):=by
          refine .vsl b o (P.cellsOf e) cap false (xs.map en) (fun e' j=>(w.cell? ⟨b,o+e'*P.cellsOf e+j,none⟩).getD Go.undef) (by simp [hxl];exact hc.2.1) (fun h=>by cases h) ?_ ?_ ?_
          ·intro i c hi
           rw [List.getElem?_map] at hi
           have hil:i < len:=by
            rcases Nat.lt_or_ge i len with h | h
            ·exact h
            ·rw [Q0 (by rw [hxl];exact h)] at hi;cases hi
           rw [hxg i hil] at hi
           simp at hi;subst hi
           obtain ⟨cs,h1,h2⟩:=hsp i hil
           rw [← h2.len];exact (aFU h1 hn).2.1
          ·intro i c j x hi hj
           rw [List.getElem?_map] at hi
           have hil:i < len:=by
            rcases Nat.lt_or_ge i len with h | h
            ·exact h
            ·rw [Q0 (by rw [hxl];exact h)] at hi;cases hi
           rw [hxg i hil] at hi
           simp at hi;subst hi
           obtain ⟨cs,h1,h2⟩:=hsp i hil
           obtain ⟨v,h3,h4⟩:=h2.get hj
           have h5:=(aFU h1 hn).2.2 j v h3
           rw [hadd] at h5
           exact ⟨trivial,by rw [h5];rfl⟩
          ·intro i c j x hi hj
           rw [List.getElem?_map] at hi
           have hil:i < len:=by
            rcases Nat.lt_or_ge i len with h | h
            ·exact h
            ·rw [Q0 (by rw [hxl];exact h)] at hi;cases hi
           rw [hxg i hil] at hi
           simp at hi;subst hi
           obtain ⟨cs,h1,h2⟩:=hsp i hil
           obtain ⟨v,h3,h4⟩:=h2.get hj
           have h5:=(aFU h1 hn).2.2 j v h3
           rw [hadd] at h5
           rw [h5];exact h4
         rw [List.length_map,hxl] at key
         exact key
      ·cases h
    | _=>simp at h
theorem aK5 {fs:Array Field} (hu:P.underlying t=some (.struct fs)) (h:Tr enc P w n t cs d ps) (hW:∀ k ∈ d.weights P t,k≤reachBytes):∃ m,n=m+1∧cs.length=P.cellsOf t∧∀ (i:Nat) (f:Field),fs[i]?=some f→∃ d' ps',Tr enc P w m f.type ((cs.drop f.offset).take (P.cellsOf f.type)) d' ps'∧∀ k ∈ d'.weights P f.type,k≤reachBytes:=by
 cases n with
 | zero=>simp [Tr,DataW.trod] at h
 | succ n =>
  unfold Tr DataW.trod at h
  rw [hu] at h
  simp only at h
  split at h
  ·rename_i hl
   refine ⟨n,rfl,hl,fun i f hi => ?_⟩
   cases hm:fs.toList.mapM (fun f=>DataW.trod enc P w 0 (fun _=>true) true n f.type ((cs.drop f.offset).take (P.cellsOf f.type))) with
   | none=>simp only [hm] at h;cases h
   | some xs =>
    obtain ⟨k1,k2⟩:=aIj hm
    obtain ⟨y,hy,h2⟩:=k2 i f (by simpa using hi)
    refine ⟨y.1,y.2,h2,fun k hk=>hW k ?_⟩
    simp only [hm] at h
    have hd:d=.agg (xs.map (·.1)):=by simp at h;exact h.1.symm
    rw [hd]
    simp only [DataW.weights,hu]
    exact DataW.weights_mem_each (j:=i) (t:=f.type) (d:=y.1) (by simp [hi]) (by simp [hy]) k hk
  ·cases h
end
end Go.Proofs.Ytgeedikghjcebaa.Ai
namespace Go.Proofs.Ytgeedikghjcebaa.Ai
def aDR (n:Int):Prop := -9223372036854775808≤n∧n≤9223372036854775807
end Go.Proofs.Ytgeedikghjcebaa.Ai
namespace Go.Proofs.Ytgeedikghjcebaa
open Go.ChangeShapes Go.WideShapes Go.ChangeAt Go.RowKit Ai
set_option linter.unusedVariables false
set_option linter.unusedSimpArgs false
set_option maxRecDepth 100000
theorem aU4:ownKnob Try.prog.godebug=none:=by kernel_rfl
theorem aP7:laidOutB Try.prog=true:=by kernel_rfl
theorem aTo:Try.prog.cellsOf 3=1:=by kernel_rfl
theorem aU0:Try.prog.cellsOf 24=1:=by kernel_rfl
theorem aRL:Try.prog.cellsOf 26=4:=by kernel_rfl
theorem aP3 {H:Type} {enc:TypeId × Value→H} {P:Program} {f:Func} {s:ChangeSpec} {apart fresh handsOn:Bool} {W W':World} {args:Array Value} {v:Value} {ds gs:List (DataW H)} {before pa pv:List MemPlace}
  (hW:DataW.Whole enc P f.params.toList s.vars apart W args.toList ds gs before) (hb:Below W.heap.size W W')
  (hres:∀ (b:Nat) (sp:Nat→Bool) (hd:Bool),DataW.TrodAll enc P W' b sp hd f.resultTypes.toList (v.resultList f.resultTypes.size) (s.fn H (ds++gs)).results [])
  (hargs:DataW.TrodAll enc P W' 0 (fun b=>decide (b < W.heap.size)) true f.params.toList args.toList (s.fn H (ds++gs)).args pa)
  (hvars:DataW.TrodVars enc P W' (fun b=>decide (b < W.heap.size)) s.vars (s.fn H (ds++gs)).vars pv) (hps:before=pa++pv):s.post enc P f apart fresh handsOn false W args v W':=by
 refine ⟨ds,gs,before,[],pa,pv,hW,hres _ _ _,hargs,hvars,World.keptBut_mono (fun p hp=>⟨hp,?_⟩) (Below.frame hb (· ∈ before)),fun h=>by cases h⟩
 rw [hps,List.mem_append] at hp
 exact Or.inr hp
section
variable {H : Type} {enc : TypeId × Value → H} {w : World} {n : Nat} {cs : List Value} {d : DataW H} {ps : List MemPlace}
theorem aSD {k:IntKind} {i:Int} (hk:k=.i64) (h:(Lit.int k i).wf=true):aDR i:=by
 subst hk
 simp only [Lit.wf,Bool.and_eq_true,decide_eq_true_eq] at h
 exact h
theorem aTy {v:Value} {l:List AV} {cs:Array Value} (hv:v=.agg cs) (hc:Cs w v.cells.toList l):PRep (fun _=>True) w v (.agg l):=by
 subst hv
 have hcs:Value.cells (.agg cs)=cs:=rfl
 rw [hcs] at hc
 have hc':aHy (fun _=>True) w cs l:=by
  unfold Cs at hc
  simpa using hc
 exact .agg cs _ hc'.1 hc'.2
theorem aMK {v : Value} (h : ∀ cs, v ≠ .agg cs) : v.cells = #[v] := by
 cases v <;> first | rfl | exact absurd rfl (h _)
theorem aR4 {base:Nat} {v:Value} (hv:Value.okWide Try.prog w .any base 3 v) (h:DataW.Trod enc Try.prog w 0 (fun _=>true) true 3 v d ps) :
  ∃ i:Int,aDR i∧PRep (fun _=>True) w v (.int .i64 i):=by
 obtain ⟨n,h⟩:=h
 have hna:∀ cs,v≠.agg cs:=by
  rintro cs rfl
  unfold Value.okWide at hv
  rw [Try.underlying3] at hv
  unfold Cell.okWide at hv
  rw [Try.underlying3] at hv
  unfold Cell.ok at hv
  rw [Try.underlying3] at hv
  exact hv
 obtain ⟨i,_,hw,hc⟩:=aIW Try.underlying3 h
 refine ⟨i,aSD rfl hw,?_⟩
 rw [aMK hna] at hc
 have:=hc.2 0 _ rfl
 simpa using this
end
end Go.Proofs.Ytgeedikghjcebaa
namespace Go.Proofs.Ytgeedikghjcebaa
open Go.ChangeShapes Go.WideShapes Go.ChangeAt Go.RowKit Ai
set_option linter.unusedVariables false
set_option linter.unusedSimpArgs false
set_option maxRecDepth 100000
theorem aSq:Try.prog.cellsOf 28=10:=by kernel_rfl
section
variable {H : Type} {enc : TypeId × Value → H} {w : World} {n : Nat} {cs : List Value} {d : DataW H} {ps : List MemPlace}
def aLm (c:RowT):List AV:=[.vsl false (eIs c.row),.vsl false (eIs c.base),.vsl false (eIs c.val),.vsl false (eIs c.own)]
theorem aRy (c:RowT):RT c (aLm c):=⟨_,_,_,_,rfl,aLc _ _,aLc _ _,aLc _ _,aLc _ _⟩
theorem aU9:Try.prog.bytesOf 3=8:=by kernel_rfl
theorem aHg (h:Tr enc Try.prog w n 24 cs d ps) (hW:∀ k ∈ d.weights Try.prog 24,k≤reachBytes):∃ l:List Int,Cs w cs [.vsl false (eIs l)]∧l.length≤reachBytes∧∀ s ∈ l,aDR s:=by
 obtain ⟨xs,g,_,_,hx⟩:=aOU (X:={s:Int // aDR s}) (en:=fun x=>eI x.1) Try.underlying24 (by rw [aTo];omega)
  (fun k cs d ps hk hh _=>by obtain ⟨s,_,b,a⟩:=aIW Try.underlying3 hh;exact ⟨⟨s,aSD rfl b⟩,a⟩) h hW
 rw [aU9] at hx
 refine ⟨xs.map (·.1),?_,by rw [List.length_map];omega,fun s hs => ?_⟩
 ·have:eIs (xs.map (·.1))=xs.map fun x=>eI x.1:=by simp [eIs]
  rw [this];exact g
 ·obtain ⟨x,_,rfl⟩:=List.mem_map.1 hs
  exact x.2
theorem aN3 (h:Tr enc Try.prog w n 26 cs d ps) (hW:∀ k ∈ d.weights Try.prog 26,k≤reachBytes):∃ c:RowT,Cs w cs (aLm c)∧(∀ n ∈ c.base,aDR n)∧(∀ n ∈ c.val,aDR n)∧c.row.length≤reachBytes∧c.base.length≤reachBytes∧c.val.length≤reachBytes∧c.own.length≤reachBytes:=by
 obtain ⟨m,rfl,hl,hf⟩:=aK5 Try.underlying26 h hW
 rw [aRL] at hl
 obtain ⟨a0,a1,a2,a3,rfl⟩:∃ a0 a1 a2 a3,cs=[a0,a1,a2,a3]:=by
  match cs,hl with
  | [a,b,c,d],_=>exact ⟨a,b,c,d,rfl⟩
 obtain ⟨d0,p0,h0,u0⟩:=hf 0 _ rfl
 obtain ⟨d1,p1,h1,u1⟩:=hf 1 _ rfl
 obtain ⟨d2,p2,h2,u2⟩:=hf 2 _ rfl
 obtain ⟨d3,p3,h3,u3⟩:=hf 3 _ rfl
 replace h0:Tr enc Try.prog w m 24 (([a0,a1,a2,a3].drop 0).take (Try.prog.cellsOf 24)) d0 p0:=h0
 replace h1:Tr enc Try.prog w m 24 (([a0,a1,a2,a3].drop 1).take (Try.prog.cellsOf 24)) d1 p1:=h1
 replace h2:Tr enc Try.prog w m 24 (([a0,a1,a2,a3].drop 2).take (Try.prog.cellsOf 24)) d2 p2:=h2
 replace h3:Tr enc Try.prog w m 24 (([a0,a1,a2,a3].drop 3).take (Try.prog.cellsOf 24)) d3 p3:=h3
 rw [aU0] at h0 h1 h2 h3
 obtain ⟨x0,g0,b0,c0⟩:=aHg h0 u0
 obtain ⟨x1,g1,b1,c1⟩:=aHg h1 u1
 obtain ⟨x2,g2,b2,c2⟩:=aHg h2 u2
 obtain ⟨x3,g3,b3,c3⟩:=aHg h3 u3
 refine ⟨⟨x0,x1,x2,x3⟩,?_,c1,c2,b0,b1,b2,b3⟩
 have:=((g0.append g1).append g2).append g3
 simpa [aLm] using this
theorem aPH (h:Tr enc Try.prog w n 28 cs d ps) (hW:∀ k ∈ d.weights Try.prog 28,k≤reachBytes):∃ p:PackD,Cs w cs ([.int .i64 p.tms,.int .i64 p.nts]++aLm p.a++aLm p.g)∧(∀ n ∈ p.a.base,aDR n)∧(∀ n ∈ p.a.val,aDR n)∧(∀ n ∈ p.g.base,aDR n)∧(∀ n ∈ p.g.val,aDR n)∧∀ l ∈ p.lists,l.length≤reachBytes:=by
 obtain ⟨m,rfl,hl,hf⟩:=aK5 Try.underlying28 h hW
 rw [aSq] at hl
 obtain ⟨a0,a1,a2,a3,a4,a5,a6,a7,a8,a9,rfl⟩:∃ a0 a1 a2 a3 a4 a5 a6 a7 a8 a9,cs=[a0,a1,a2,a3,a4,a5,a6,a7,a8,a9]:=by
  match cs,hl with
  | [a,b,c,d,e,f,g,h,i,j],_=>exact ⟨a,b,c,d,e,f,g,h,i,j,rfl⟩
 obtain ⟨d0,p0,h0,u0⟩:=hf 0 _ rfl
 obtain ⟨d1,p1,h1,u1⟩:=hf 1 _ rfl
 obtain ⟨d2,p2,h2,u2⟩:=hf 2 _ rfl
 obtain ⟨d3,p3,h3,u3⟩:=hf 3 _ rfl
 replace h0:Tr enc Try.prog w m 3 (([a0,a1,a2,a3,a4,a5,a6,a7,a8,a9].drop 0).take (Try.prog.cellsOf 3)) d0 p0:=h0
 replace h1:Tr enc Try.prog w m 3 (([a0,a1,a2,a3,a4,a5,a6,a7,a8,a9].drop 1).take (Try.prog.cellsOf 3)) d1 p1:=h1
 replace h2:Tr enc Try.prog w m 26 (([a0,a1,a2,a3,a4,a5,a6,a7,a8,a9].drop 2).take (Try.prog.cellsOf 26)) d2 p2:=h2
 replace h3:Tr enc Try.prog w m 26 (([a0,a1,a2,a3,a4,a5,a6,a7,a8,a9].drop 6).take (Try.prog.cellsOf 26)) d3 p3:=h3
 rw [aTo] at h0 h1
 rw [aRL] at h2 h3
 obtain ⟨x,_,_,g0⟩:=aIW Try.underlying3 h0
 obtain ⟨y,_,_,g1⟩:=aIW Try.underlying3 h1
 obtain ⟨c,g2,b2,c2,r1,r2,r3,r4⟩:=aN3 h2 u2
 obtain ⟨e,g3,b3,c3,s1,s2,s3,s4⟩:=aN3 h3 u3
 refine ⟨⟨x,y,c,e⟩,?_,b2,c2,b3,c3,fun l hl => ?_⟩
 rotate_left
 ·simp only [PackD.lists,List.mem_cons,List.not_mem_nil,or_false] at hl
  rcases hl with rfl | rfl | rfl | rfl | rfl | rfl | rfl | rfl <;> assumption
 have:=((g0.append g1).append g2).append g3
 simpa using this
theorem aO7 {base:Nat} {v:Value} (hv:Value.okWide Try.prog w .any base 28 v) (h:DataW.Trod enc Try.prog w 0 (fun _=>true) true 28 v d ps) (hW:∀ k ∈ d.weights Try.prog 28,k≤reachBytes) :
  ∃ (p:PackD) (cs:List AV),aBO p cs∧(∀ n ∈ p.a.base,aDR n)∧(∀ n ∈ p.a.val,aDR n)∧(∀ n ∈ p.g.base,aDR n)∧(∀ n ∈ p.g.val,aDR n)∧(∀ l ∈ p.lists,l.length≤reachBytes)∧PRep (fun _=>True) w v (.agg cs):=by
 obtain ⟨n,h⟩:=h
 unfold Value.okWide at hv
 rw [Try.underlying28] at hv
 obtain ⟨cs,rfl,_,_⟩:=hv
 obtain ⟨p,hc,b0,b1,b2,b3,b4⟩:=aPH h hW
 exact ⟨p,_,⟨_,_,rfl,aRy _,aRy _⟩,b0,b1,b2,b3,b4,aTy rfl hc⟩
theorem wf8 {k:IntKind} {i:Int} (hk:k=.u8) (h:(Lit.int k i).wf=true):0≤i∧i < 256:=by
 subst hk
 simp only [Lit.wf,Bool.and_eq_true,decide_eq_true_eq] at h
 have:IntKind.u8.min=0:=rfl
 have:IntKind.u8.max=255:=rfl
 omega
theorem aSr {i:Int} (h:0≤i∧i < 256):[AV.int .u8 i]=eB (UInt8.ofNat i.toNat):=by
 unfold eB
 congr 2
 rw [UInt8.toNat_ofNat']
 omega
theorem aRM (h:Tr enc Try.prog w n 5 cs d ps):∃ b:UInt8,Cs w cs (eB b):=by
 obtain ⟨i,_,hw,hc⟩:=aIW Try.underlying5 h
 exact ⟨UInt8.ofNat i.toNat,by rw [← aSr (wf8 rfl hw)];exact hc⟩
theorem aQ2 {base:Nat} {v:Value} (hv:Value.okWide Try.prog w .any base 5 v) (h:DataW.Trod enc Try.prog w 0 (fun _=>true) true 5 v d ps) :
  ∃ b:UInt8,PRep (fun _=>True) w v (.int .u8 b.toNat):=by
 obtain ⟨n,h⟩:=h
 have hna:∀ cs,v≠.agg cs:=by
  rintro cs rfl
  unfold Value.okWide at hv
  rw [Try.underlying5] at hv
  unfold Cell.okWide at hv
  rw [Try.underlying5] at hv
  unfold Cell.ok at hv
  rw [Try.underlying5] at hv
  exact hv
 obtain ⟨b,hc⟩:=aRM h
 refine ⟨b,?_⟩
 rw [aMK hna] at hc
 have:=hc.2 0 _ rfl
 simpa using this
end
end Go.Proofs.Ytgeedikghjcebaa
