/- Readings of arguments, their weights kept. -/
import Derived.Test.YteenffomgdfocaamAi27
import Derived.SizedLaws
import Derived.Test.YteenffomgdfocaamXA
import Derived.Test.YteenffomgdfocaaRows
import Derived.ProofKit
import Derived.WalkKit
import Derived.Test.YteenffomgdfocaamXC
namespace Go.Proofs.Yteenffomgdfocaa.Ai
open Go
open List renaming getElem?_eq_none → Q0
set_option linter.unusedVariables false
set_option linter.unusedSimpArgs false
section
variable {H : Type} {enc : TypeId × Value → H} {P : Program} {w : World} {n : Nat} {t : TypeId} {cs : List Value} {d : DataW H} {ps : List MemPlace}
theorem aGB {P:Program} {e:TypeId}:∀ (l:List (DataW H)) (d:DataW H),d ∈ l→∀ k ∈ d.weights P e,k ∈ DataW.weightsAll P e l
 | [],d,h,k,hk=>by cases h
 | x::l,d,h,k,hk=>by
  simp only [DataW.weightsAll,List.mem_append]
  rcases List.mem_cons.1 h with rfl | h
  ·exact .inl hk
  ·exact .inr (aGB l d h k hk)
theorem aPT (hu:P.underlying t=some .string) (h:Tr enc P w n t cs d ps) (hW:∀ k ∈ d.weights P t,k≤reachBytes):∃ s:List UInt8,Cs w cs [.str s]∧cs.length=1∧s.length≤reachBytes:=by
 cases n with
 | zero=>simp [Tr,DataW.trod] at h
 | succ n =>
  unfold Tr DataW.trod at h
  rw [hu] at h
  cases cs with
  | nil=>simp at h
  | cons v r =>
   cases r with
   | cons u r=>simp at h
   | nil =>
    cases v <;> simp at h
    rename_i s
    refine ⟨s.data.toList,.one (.str _),rfl,?_⟩
    obtain ⟨_,hd,_⟩:=h
    have:=hW s.data.toList.length (by rw [← hd];simp [DataW.weights])
    exact this
theorem aJ4 {X:Type} {e:TypeId} (hu:P.underlying t=some (.slice e)) (hn:0 < P.cellsOf e) {en:X→List AV} (he:∀ (m:Nat) (cs:List Value) (d:DataW H) (ps:List MemPlace),m+1=n→Tr enc P w m e cs d ps→(∀ k ∈ d.weights P e,k≤reachBytes)→∃ x,Cs w cs (en x))
  (h:Tr enc P w n t cs d ps) (hW:∀ k ∈ d.weights P t,k≤reachBytes):∃ xs:List X,Cs w cs [.vsl false (xs.map en)]∧cs.length=1∧xs.length≤maxLen:=by
 cases n with
 | zero=>simp [Tr,DataW.trod] at h
 | succ n =>
  unfold Tr DataW.trod at h
  rw [hu] at h
  cases cs with
  | nil=>simp at h
  | cons v r =>
   cases r with
   | cons u r=>simp at h
   | nil =>
    cases v with
    | slice a len cap =>
     cases a with
     | none =>
      cases len with
      | succ len=>simp at h
      | zero =>
       cases cap with
       | succ cap=>simp at h
       | zero=>exact ⟨[],.one (.vsl0 false),rfl,Nat.zero_le _⟩
     | some a =>
      simp only at h
      split at h
      ·rename_i hc
       cases hm:(List.range len).mapM (fun i=>(w.cells? 0 (a.add (i*P.cellsOf e)) (P.cellsOf e)).bind (DataW.trod enc P w 0 (fun _=>true) true n e)) with
       | none=>simp only [hm] at h;cases h
       | some elems =>
        obtain ⟨k1,k2⟩:=aEh hm
        simp only [List.length_range] at k1
        have hd:∃ rest:List (DataW H),d=.slice (elems.map (·.1)) rest:=by
         simp only [hm,Option.bind_some] at h
         split at h
         ·cases hm2:(List.range (cap - len)).mapM (fun j=>(w.cells? 0 (a.add ((len+j)*P.cellsOf e)) (P.cellsOf e)).bind (DataW.trod enc P w 0 (fun _=>true) true n e)) with
          | none=>rw [hm2] at h;cases h
          | some rest=>rw [hm2] at h;simp at h;exact ⟨_,h.1.symm⟩
         ·simp at h;exact ⟨_,h.1.symm⟩
        obtain ⟨rest,hd⟩:=hd
        have hWe:∀ y ∈ elems,∀ k ∈ y.1.weights P e,k≤reachBytes:=by
         intro y hy k hk
         apply hW k
         rw [hd]
         simp only [DataW.weights,hu,List.mem_cons,List.mem_append]
         refine .inr (.inl (aGB _ y.1 (List.mem_map_of_mem hy) k hk))
        -- the elements
        have el:∀ i,i < len→∃ (x:X) (cs:List Value),w.cells? 0 (a.add (i*P.cellsOf e)) (P.cellsOf e)=some cs∧Cs w cs (en x):=by
         intro i hi
         obtain ⟨y,hy,h2⟩:=k2 i i (by simp [hi])
         cases hcs:w.cells? 0 (a.add (i*P.cellsOf e)) (P.cellsOf e) with
         | none=>simp [hcs] at h2
         | some cs =>
          simp only [hcs,Option.bind_some] at h2
          obtain ⟨x,hx⟩:=he n cs y.1 y.2 rfl h2 (hWe y (List.mem_of_getElem? hy))
          exact ⟨x,cs,rfl,hx⟩
        by_cases h0:len=0
        ·subst h0
         refine ⟨[],.one ?_,rfl,Nat.zero_le _⟩
         by_cases hcap:cap=0
         ·subst hcap;exact .vslE a false
         ·-- a spare cell is read
          have hsp:a.spot=none:=by
           simp only [if_true] at h
           cases hm2:(List.range (cap - 0)).mapM (fun j=>(w.cells? 0 (a.add ((0+j)*P.cellsOf e)) (P.cellsOf e)).bind (DataW.trod enc P w 0 (fun _=>true) true n e)) with
           | none=>simp only [hm,Option.bind_some,hm2] at h;cases h
           | some rest =>
            obtain ⟨_,q2⟩:=aEh hm2
            obtain ⟨y,_,h2⟩:=q2 0 0 (by rw [List.getElem?_range];omega)
            cases hcs:w.cells? 0 (a.add ((0+0)*P.cellsOf e)) (P.cellsOf e) with
            | none=>rw [hcs] at h2;cases h2
            | some cs =>
             have:=(aC5 hcs hn).1
             simpa [Addr.add] using this
          obtain ⟨b,o,sp⟩:=a
          simp only at hsp;subst hsp
          exact .vsl b o (P.cellsOf e) cap false [] (fun _ _=>Go.undef) (Nat.zero_le _) (fun h=>by cases h) (fun e c h=>by simp at h) (fun e c j x h=>by simp at h) (fun e c j x h=>by simp at h)
        ·-- at least one
         have hsp:a.spot=none:=by
          obtain ⟨x,cs,h1,_⟩:=el 0 (by omega)
          have:=(aC5 h1 hn).1
          simpa [Addr.add] using this
         obtain ⟨b,o,sp⟩:=a
         simp only at hsp;subst hsp
         have hadd:∀ i,(Addr.add ⟨b,o,none⟩ i)=⟨b,o+i,none⟩:=fun i=>by
          unfold Addr.add;split
          ·rename_i h;subst h;rfl
          ·rfl
         let xs:List X:=(List.range len).pmap (fun i hi=>Classical.choose (el i hi)) (fun i hi=>by simpa using hi)
         have hxl:xs.length=len:=by simp [xs]
         have hxg:∀ (i:Nat) (hi:i < len),xs[i]?=some (Classical.choose (el i hi)):=fun i hi=>by simp [xs,hi]
         have hsp:∀ (i:Nat) (hi:i < len),∃ cs:List Value,w.cells? 0 (Addr.add ⟨b,o,none⟩ (i*P.cellsOf e)) (P.cellsOf e)=some cs∧Cs w cs (en (Classical.choose (el i hi))):=fun i hi=>Classical.choose_spec (el i hi)
         refine ⟨xs,.one ?_,rfl,by rw [hxl];omega⟩
         have key:PRep (fun _=>True) w (.slice (some ⟨b,o,none⟩) (xs.map en).length cap) (.vsl false (xs.map en)):=by
          refine .vsl b o (P.cellsOf e) cap false (xs.map en) (fun e' j=>(w.cell? ⟨b,o+e'*P.cellsOf e+j,none⟩).getD Go.undef) (by simp [hxl];exact hc.2.1) (fun h=>by cases h) ?_ ?_ ?_
          ·intro i c hi
           rw [List.getElem?_map] at hi
           have hil:i < len:=by
            rcases Nat.lt_or_ge i len with h | h
            ·exact h
            ·rw [Q0 (by rw [hxl];exact h)] at hi;cases hi
           rw [hxg i hil] at hi
           simp at hi;subst hi
           obtain ⟨cs,h1,h2⟩:=hsp i hil
           rw [← h2.len];exact (aC5 h1 hn).2.1
          ·intro i c j x hi hj
           rw [List.getElem?_map] at hi
           have hil:i < len:=by
            rcases Nat.lt_or_ge i len with h | h
            ·exact h
            ·rw [Q0 (by rw [hxl];exact h)] at hi;cases hi
           rw [hxg i hil] at hi
           simp at hi;subst hi
           obtain ⟨cs,h1,h2⟩:=hsp i hil
           obtain ⟨v,h3,h4⟩:=h2.get hj
           have h5:=(aC5 h1 hn).2.2 j v h3
           rw [hadd] at h5
           exact ⟨trivial,by rw [h5];rfl⟩
          ·intro i c j x hi hj
           rw [List.getElem?_map] at hi
           have hil:i < len:=by
            rcases Nat.lt_or_ge i len with h | h
            ·exact h
            ·rw [Q0 (by rw [hxl];exact h)] at hi;cases hi
           rw [hxg i hil] at hi
           simp at hi;subst hi
           obtain ⟨cs,h1,h2⟩:=hsp i hil
           obtain ⟨v,h3,h4⟩:=h2.get hj
           have h5:=(aC5 h1 hn).2.2 j v h3
           rw [hadd] at h5
           rw [h5];exact h4
         rw [List.length_map,hxl] at key
         exact key
      ·cases h
    | _=>simp at h
theorem aIj {fs:Array Field} (hu:P.underlying t=some (.struct fs)) (h:Tr enc P w n t cs d ps) (hW:∀ k ∈ d.weights P t,k≤reachBytes):∃ m,n=m+1∧cs.length=P.cellsOf t∧∀ (i:Nat) (f:Field),fs[i]?=some f→∃ d' ps',Tr enc P w m f.type ((cs.drop f.offset).take (P.cellsOf f.type)) d' ps'∧∀ k ∈ d'.weights P f.type,k≤reachBytes:=by
 cases n with
 | zero=>simp [Tr,DataW.trod] at h
 | succ n =>
  unfold Tr DataW.trod at h
  rw [hu] at h
  simp only at h
  split at h
  ·rename_i hl
   refine ⟨n,rfl,hl,fun i f hi => ?_⟩
   cases hm:fs.toList.mapM (fun f=>DataW.trod enc P w 0 (fun _=>true) true n f.type ((cs.drop f.offset).take (P.cellsOf f.type))) with
   | none=>simp only [hm] at h;cases h
   | some xs =>
    obtain ⟨k1,k2⟩:=aEh hm
    obtain ⟨y,hy,h2⟩:=k2 i f (by simpa using hi)
    refine ⟨y.1,y.2,h2,fun k hk=>hW k ?_⟩
    simp only [hm] at h
    have hd:d=.agg (xs.map (·.1)):=by simp at h;exact h.1.symm
    rw [hd]
    simp only [DataW.weights,hu]
    exact DataW.weights_mem_each (j:=i) (t:=f.type) (d:=y.1) (by simp [hi]) (by simp [hy]) k hk
  ·cases h
end
end Go.Proofs.Yteenffomgdfocaa.Ai
namespace Go.Proofs.Yteenffomgdfocaa.Ai
structure NamesOk (g:GramD):Prop where
 terms:∀ s ∈ g.terms,s.length≤140737488351232
 nonterms:∀ s ∈ g.nonterms,s.length≤140737488351232
end Go.Proofs.Yteenffomgdfocaa.Ai
namespace Go.Proofs.Yteenffomgdfocaa
open Go.ChangeShapes Go.WideShapes Go.ChangeAt Go.RowKit Ai
set_option linter.unusedVariables false
set_option linter.unusedSimpArgs false
set_option maxRecDepth 100000
theorem aSR:ownKnob Try.prog.godebug=none:=by kernel_rfl
theorem aOf:laidOutB Try.prog=true:=by kernel_rfl
theorem aQy:Try.prog.cellsOf 3=1:=by kernel_rfl
theorem aSd:Try.prog.cellsOf 9=1:=by kernel_rfl
theorem aQP:Try.prog.cellsOf 22=1:=by kernel_rfl
theorem aOu:Try.prog.cellsOf 32=1:=by kernel_rfl
theorem aRy:Try.prog.cellsOf 66=1:=by kernel_rfl
theorem aQw:Try.prog.cellsOf 23=1:=by kernel_rfl
theorem aSf:Try.prog.cellsOf 68=1:=by kernel_rfl
theorem aQQ:Try.prog.cellsOf 65=5:=by kernel_rfl
theorem aSe:Try.prog.cellsOf 24=1:=by kernel_rfl
theorem aPB:Try.prog.cellsOf 70=2:=by kernel_rfl
theorem aRz:Try.prog.cellsOf 25=1:=by kernel_rfl
theorem aSG:Try.prog.cellsOf 27=5:=by kernel_rfl
theorem aOa {H:Type} {enc:TypeId × Value→H} {P:Program} {f:Func} {s:ChangeSpec} {apart fresh handsOn:Bool} {W W':World} {args:Array Value} {v:Value} {ds gs:List (DataW H)} {before pa pv:List MemPlace}
  (hW:DataW.Whole enc P f.params.toList s.vars apart W args.toList ds gs before) (hb:Below W.heap.size W W')
  (hres:∀ (b:Nat) (sp:Nat→Bool) (hd:Bool),DataW.TrodAll enc P W' b sp hd f.resultTypes.toList (v.resultList f.resultTypes.size) (s.fn H (ds++gs)).results [])
  (hargs:DataW.TrodAll enc P W' 0 (fun b=>decide (b < W.heap.size)) true f.params.toList args.toList (s.fn H (ds++gs)).args pa)
  (hvars:DataW.TrodVars enc P W' (fun b=>decide (b < W.heap.size)) s.vars (s.fn H (ds++gs)).vars pv) (hps:before=pa++pv):s.post enc P f apart fresh handsOn false W args v W':=by
 refine ⟨ds,gs,before,[],pa,pv,hW,hres _ _ _,hargs,hvars,World.keptBut_mono (fun p hp=>⟨hp,?_⟩) (Below.frame hb (· ∈ before)),fun h=>by cases h⟩
 rw [hps,List.mem_append] at hp
 exact Or.inr hp
section
variable {H : Type} {enc : TypeId × Value → H} {w : World} {n : Nat} {cs : List Value} {d : DataW H} {ps : List MemPlace}
def aLz (n:Int):Prop := -9223372036854775808≤n∧n≤9223372036854775807
theorem aRI {k:IntKind} {i:Int} (hk:k=.i64) (h:(Lit.int k i).wf=true):aLz i:=by
 subst hk
 simp only [Lit.wf,Bool.and_eq_true,decide_eq_true_eq] at h
 exact h
theorem aPJ {v:Value} {l:List AV} {cs:Array Value} (hv:v=.agg cs) (hc:Cs w v.cells.toList l):PRep (fun _=>True) w v (.agg l):=by
 subst hv
 have hcs:Value.cells (.agg cs)=cs:=rfl
 rw [hcs] at hc
 have hc':aGp (fun _=>True) w cs l:=by
  unfold Cs at hc
  simpa using hc
 exact .agg cs _ hc'.1 hc'.2
theorem aK8 (h:Tr enc Try.prog w n 22 cs d ps) (hW:∀ k ∈ d.weights Try.prog 22,k≤reachBytes):∃ l:List Str,Cs w cs [.vsl false (eSs l)]∧l.length≤maxLen∧∀ s ∈ l,s.length≤140737488351232:=by
 obtain ⟨xs,g,_,hx⟩:=aJ4 (X:={s:Str // s.length≤reachBytes}) (en:=fun x=>eS x.1) Try.underlying22 (by rw [aSd];omega)
  (fun k cs d ps hk hh hw=>by obtain ⟨s,a,_,b⟩:=aPT Try.underlying9 hh hw;exact ⟨⟨s,b⟩,a⟩) h hW
 refine ⟨xs.map (·.1),?_,by simpa using hx,fun s hs => ?_⟩
 ·have:eSs (xs.map (·.1))=xs.map fun x=>eS x.1:=by simp [eSs]
  rw [this];exact g
 ·obtain ⟨x,_,rfl⟩:=List.mem_map.1 hs
  exact x.2
theorem aI2 (h:Tr enc Try.prog w n 32 cs d ps):∃ l:List Int,Cs w cs [.vsl false (eIs l)]∧l.length≤maxLen∧∀ s ∈ l,aLz s:=by
 obtain ⟨xs,g,_,hx⟩:=aEe (X:={s:Int // aLz s}) (en:=fun x=>eI x.1) Try.underlying32 (by rw [aQy];omega)
  (fun k cs d ps hk hh=>by obtain ⟨s,_,b,a⟩:=aFM Try.underlying3 hh;exact ⟨⟨s,aRI rfl b⟩,a⟩) h
 refine ⟨xs.map (·.1),?_,by simpa using hx,fun s hs => ?_⟩
 ·have:eIs (xs.map (·.1))=xs.map fun x=>eI x.1:=by simp [eIs]
  rw [this];exact g
 ·obtain ⟨x,_,rfl⟩:=List.mem_map.1 hs
  exact x.2
theorem aNX (h:Tr enc Try.prog w n 23 cs d ps):∃ l:List Int,Cs w cs [.vsl false (eIs l)]∧l.length≤maxLen:=by
 obtain ⟨xs,g,_,hx⟩:=aEe (X:=Int) (en:=fun x=>eI x) Try.underlying23 (by rw [aRy];omega)
  (fun k cs d ps hk hh=>by obtain ⟨s,_,b,a⟩:=aFM Try.underlying66 hh;exact ⟨s,a⟩) h
 exact ⟨xs,g,hx⟩
theorem aQR (h:Tr enc Try.prog w n 65 cs d ps) (hW:∀ k ∈ d.weights Try.prog 65,k≤reachBytes):∃ x:{r:RuleD // r.Ok},Cs w cs (aAt x.1):=by
 obtain ⟨m,rfl,hl,hf⟩:=aIj Try.underlying65 h hW
 rw [aQQ] at hl
 obtain ⟨a0,a1,a2,a3,a4,rfl⟩:∃ a0 a1 a2 a3 a4,cs=[a0,a1,a2,a3,a4]:=by
  match cs,hl with
  | [a,b,c,d,e],_=>exact ⟨a,b,c,d,e,rfl⟩
 obtain ⟨d0,p0,h0,_⟩:=hf 0 _ rfl
 obtain ⟨d1,p1,h1,_⟩:=hf 1 _ rfl
 obtain ⟨d2,p2,h2,u2⟩:=hf 2 _ rfl
 obtain ⟨d3,p3,h3,u3⟩:=hf 3 _ rfl
 obtain ⟨d4,p4,h4,_⟩:=hf 4 _ rfl
 replace h0:Tr enc Try.prog w m 3 (([a0,a1,a2,a3,a4].drop 0).take (Try.prog.cellsOf 3)) d0 p0:=h0
 replace h1:Tr enc Try.prog w m 32 (([a0,a1,a2,a3,a4].drop 1).take (Try.prog.cellsOf 32)) d1 p1:=h1
 replace h2:Tr enc Try.prog w m 22 (([a0,a1,a2,a3,a4].drop 2).take (Try.prog.cellsOf 22)) d2 p2:=h2
 replace h3:Tr enc Try.prog w m 9 (([a0,a1,a2,a3,a4].drop 3).take (Try.prog.cellsOf 9)) d3 p3:=h3
 replace h4:Tr enc Try.prog w m 3 (([a0,a1,a2,a3,a4].drop 4).take (Try.prog.cellsOf 3)) d4 p4:=h4
 rw [aQy] at h0 h4
 rw [aOu] at h1
 rw [aQP] at h2
 rw [aSd] at h3
 obtain ⟨x0,_,w0,g0⟩:=aFM Try.underlying3 h0
 obtain ⟨x1,g1,b1,_⟩:=aI2 h1
 obtain ⟨x2,g2,b2,_⟩:=aK8 h2 u2
 obtain ⟨x3,g3,_⟩:=aRJ Try.underlying9 h3
 obtain ⟨x4,_,_,g4⟩:=aFM Try.underlying3 h4
 refine ⟨⟨⟨x0,x1,x2,x3,x4⟩,⟨b1,b2,aRI rfl w0⟩⟩,?_⟩
 have:=(((g0.append g1).append g2).append g3).append g4
 simpa using this
theorem aPU (h:Tr enc Try.prog w n 70 cs d ps):∃ x:{r:LevelD // r.terms.length≤maxLen},Cs w cs (aBm x.1):=by
 obtain ⟨m,rfl,hl,hf⟩:=aHo Try.underlying70 h
 rw [aPB] at hl
 obtain ⟨a0,a1,rfl⟩:∃ a0 a1,cs=[a0,a1]:=by
  match cs,hl with
  | [a,b],_=>exact ⟨a,b,rfl⟩
 obtain ⟨d0,p0,h0⟩:=hf 0 _ rfl
 obtain ⟨d1,p1,h1⟩:=hf 1 _ rfl
 replace h0:Tr enc Try.prog w m 68 (([a0,a1].drop 0).take (Try.prog.cellsOf 68)) d0 p0:=h0
 replace h1:Tr enc Try.prog w m 32 (([a0,a1].drop 1).take (Try.prog.cellsOf 32)) d1 p1:=h1
 rw [aSf] at h0
 rw [aOu] at h1
 obtain ⟨x0,_,w0,g0⟩:=aFM Try.underlying68 h0
 obtain ⟨x1,g1,b1,_⟩:=aI2 h1
 exact ⟨⟨⟨x0,x1⟩,b1⟩,by simpa using g0.append g1⟩
theorem aQT (h:Tr enc Try.prog w n 27 cs d ps) (hW:∀ k ∈ d.weights Try.prog 27,k≤reachBytes):∃ g:GramD,g.Ok∧NamesOk g∧Cs w cs (aA8 g):=by
 obtain ⟨m,rfl,hl,hf⟩:=aIj Try.underlying27 h hW
 rw [aSG] at hl
 obtain ⟨a0,a1,a2,a3,a4,rfl⟩:∃ a0 a1 a2 a3 a4,cs=[a0,a1,a2,a3,a4]:=by
  match cs,hl with
  | [a,b,c,d,e],_=>exact ⟨a,b,c,d,e,rfl⟩
 obtain ⟨d0,p0,h0,u0⟩:=hf 0 _ rfl
 obtain ⟨d1,p1,h1,u1⟩:=hf 1 _ rfl
 obtain ⟨d2,p2,h2,u2⟩:=hf 2 _ rfl
 obtain ⟨d3,p3,h3,u3⟩:=hf 3 _ rfl
 obtain ⟨d4,p4,h4,u4⟩:=hf 4 _ rfl
 replace h0:Tr enc Try.prog w m 22 (([a0,a1,a2,a3,a4].drop 0).take (Try.prog.cellsOf 22)) d0 p0:=h0
 replace h1:Tr enc Try.prog w m 22 (([a0,a1,a2,a3,a4].drop 1).take (Try.prog.cellsOf 22)) d1 p1:=h1
 replace h2:Tr enc Try.prog w m 23 (([a0,a1,a2,a3,a4].drop 2).take (Try.prog.cellsOf 23)) d2 p2:=h2
 replace h3:Tr enc Try.prog w m 24 (([a0,a1,a2,a3,a4].drop 3).take (Try.prog.cellsOf 24)) d3 p3:=h3
 replace h4:Tr enc Try.prog w m 25 (([a0,a1,a2,a3,a4].drop 4).take (Try.prog.cellsOf 25)) d4 p4:=h4
 replace u3:∀ k ∈ d3.weights Try.prog 24,k≤reachBytes:=u3
 rw [aQP] at h0 h1
 rw [aQw] at h2
 rw [aSe] at h3
 rw [aRz] at h4
 obtain ⟨x0,g0,b0,s0⟩:=aK8 h0 u0
 obtain ⟨x1,g1,b1,s1⟩:=aK8 h1 u1
 obtain ⟨x2,g2,b2⟩:=aNX h2
 obtain ⟨x3,g3,_,b3⟩:=aJ4 (X:={r:RuleD // r.Ok}) (en:=fun x=>aAt x.1) Try.underlying24 (by rw [aQQ];omega) (fun k cs d ps hk hh hw=>aQR hh hw) h3 u3
 obtain ⟨x4,g4,_,b4⟩:=aEe (X:={r:LevelD // r.terms.length≤maxLen}) (en:=fun x=>aBm x.1) Try.underlying25 (by rw [aPB];omega) (fun k cs d ps hk hh=>aPU hh) h4
 refine ⟨⟨x0,x1,x2,x3.map (·.1),x4.map (·.1)⟩,⟨b0,b1,b2,by simpa using b3,by simpa using b4,fun r hr => ?_,fun r hr => ?_⟩,⟨s0,s1⟩,?_⟩
 ·obtain ⟨x,_,rfl⟩:=List.mem_map.1 hr;exact x.2
 ·obtain ⟨x,_,rfl⟩:=List.mem_map.1 hr;exact x.2
 ·have:=(((g0.append g1).append g2).append g3).append g4
  simpa [aA8,List.map_map,Function.comp_def] using this
theorem aPe {base:Nat} {v:Value} (hv:Value.okWide Try.prog w .any base 27 v) (h:DataW.Trod enc Try.prog w 0 (fun _=>true) true 27 v d ps) (hW:∀ k ∈ d.weights Try.prog 27,k≤reachBytes) :
  ∃ g:GramD,g.Ok∧NamesOk g∧PRep (fun _=>True) w v (.agg (aA8 g)):=by
 obtain ⟨n,h⟩:=h
 unfold Value.okWide at hv
 rw [Try.underlying27] at hv
 obtain ⟨cs,rfl,_,_⟩:=hv
 obtain ⟨g,h1,h2,hc⟩:=aQT h hW
 exact ⟨g,h1,h2,aPJ rfl hc⟩
end
end Go.Proofs.Yteenffomgdfocaa
namespace Go.Proofs.Yteenffomgdfocaa
open Go.ChangeShapes Go.WideShapes Go.ChangeAt Go.RowKit Ai
set_option linter.unusedVariables false
set_option linter.unusedSimpArgs false
set_option maxRecDepth 100000
theorem aSg:Try.prog.cellsOf 73=2:=by kernel_rfl
theorem aSF:Try.prog.cellsOf 71=1:=by kernel_rfl
theorem aSH:Try.prog.cellsOf 45=1:=by kernel_rfl
theorem aSI:Try.prog.cellsOf 44=1:=by kernel_rfl
theorem aSh:Try.prog.cellsOf 28=1:=by kernel_rfl
theorem aSE:Try.prog.cellsOf 29=1:=by kernel_rfl
theorem aSc:Try.prog.cellsOf 31=2:=by kernel_rfl
section
variable {H : Type} {enc : TypeId × Value → H} {w : World} {n : Nat} {cs : List Value} {d : DataW H} {ps : List MemPlace}
theorem aPy {v : Value} (h : ∀ cs, v ≠ .agg cs) : v.cells = #[v] := by
 cases v <;> first | rfl | exact absurd rfl (h _)
theorem aPd {base:Nat} {v:Value} (hv:Value.okWide Try.prog w .any base 32 v) (h:DataW.Trod enc Try.prog w 0 (fun _=>true) true 32 v d ps) :
  ∃ l:List Int,l.length≤maxLen∧(∀ s ∈ l,aLz s)∧PRep (fun _=>True) w v (.vsl false (eIs l)):=by
 obtain ⟨n,h⟩:=h
 have hna:∀ cs,v≠.agg cs:=by
  rintro cs rfl
  unfold Value.okWide at hv
  rw [Try.underlying32] at hv
  unfold Cell.okWide at hv
  rw [Try.underlying32] at hv
  unfold Cell.ok at hv
  rw [Try.underlying32] at hv
  exact hv
 obtain ⟨l,hc,h1,h2⟩:=aI2 h
 refine ⟨l,h1,h2,?_⟩
 rw [aPy hna] at hc
 have:=hc.2 0 _ rfl
 simpa using this
theorem aRW (l:List (List Int)):LiR l (.vsl false (l.map fun r=>[.vsl false (eIs r)])):=.inr ⟨false,_,rfl,by simp,fun j hj=>⟨.vsl false (eIs l[j]),by simp [hj],.inr ⟨false,rfl⟩⟩⟩
theorem aQS (h:Tr enc Try.prog w n 29 cs d ps):∃ l:List (List Int),Cs w cs [.vsl false (l.map fun r=>[.vsl false (eIs r)])]∧l.length≤maxLen∧∀ r ∈ l,r.length≤maxLen:=by
 obtain ⟨xs,g,_,hx⟩:=aEe (X:={r:List Int // r.length≤maxLen}) (en:=fun r=>[.vsl false (eIs r.1)]) Try.underlying29 (by rw [aOu];omega)
  (fun k cs d ps hk hh=>by obtain ⟨l,a,b,_⟩:=aI2 hh;exact ⟨⟨l,b⟩,a⟩) h
 refine ⟨xs.map (·.1),?_,by simpa using hx,fun r hr => ?_⟩
 ·rw [List.map_map];exact g
 ·obtain ⟨x,_,rfl⟩:=List.mem_map.1 hr
  exact x.2
theorem aRK (h:Tr enc Try.prog w n 73 cs d ps):∃ a:Int × Int,Cs w cs (aAv a):=by
 obtain ⟨m,rfl,hl,hf⟩:=aHo Try.underlying73 h
 rw [aSg] at hl
 obtain ⟨a0,a1,rfl⟩:∃ a0 a1,cs=[a0,a1]:=by
  match cs,hl with
  | [a,b],_=>exact ⟨a,b,rfl⟩
 obtain ⟨d0,p0,h0⟩:=hf 0 _ rfl
 obtain ⟨d1,p1,h1⟩:=hf 1 _ rfl
 replace h0:Tr enc Try.prog w m 71 (([a0,a1].drop 0).take (Try.prog.cellsOf 71)) d0 p0:=h0
 replace h1:Tr enc Try.prog w m 3 (([a0,a1].drop 1).take (Try.prog.cellsOf 3)) d1 p1:=h1
 rw [aSF] at h0
 rw [aQy] at h1
 obtain ⟨x,_,_,g0⟩:=aFM Try.underlying71 h0
 obtain ⟨y,_,_,g1⟩:=aFM Try.underlying3 h1
 refine ⟨(x,y),?_⟩
 have:=g0.append g1
 simpa [aAv] using this
def aId (l:List (Int × Int)):List AV:=[.vsl false (l.map aAv)]
def aH7 (l:List (List (Int × Int))):List AV:=[.vsl false (l.map aId)]
theorem aQU (h:Tr enc Try.prog w n 45 cs d ps):∃ l:List (Int × Int),Cs w cs (aId l)∧l.length≤maxLen:=by
 obtain ⟨xs,g,_,hx⟩:=aEe (X:=Int × Int) (en:=aAv) Try.underlying45 (by rw [aSg];omega) (fun k cs d ps hk hh=>aRK hh) h
 exact ⟨xs,g,hx⟩
theorem aQV (h:Tr enc Try.prog w n 44 cs d ps):∃ l:List (List (Int × Int)),Cs w cs (aH7 l)∧l.length≤maxLen∧∀ c ∈ l,c.length≤maxLen:=by
 obtain ⟨xs,g,_,hx⟩:=aEe (X:={c:List (Int × Int) // c.length≤maxLen}) (en:=fun c=>aId c.1) Try.underlying44 (by rw [aSH];omega) (fun k cs d ps hk hh=>by obtain ⟨l,a,b⟩:=aQU hh;exact ⟨⟨l,b⟩,a⟩) h
 refine ⟨xs.map (·.1),?_,by simpa using hx,fun r hr => ?_⟩
 ·unfold aH7;rw [List.map_map];exact g
 ·obtain ⟨x,_,rfl⟩:=List.mem_map.1 hr
  exact x.2
theorem aPV (h:Tr enc Try.prog w n 28 cs d ps):∃ l:List (List (List (Int × Int))),Cs w cs [.vsl false (l.map aH7)]∧l.length≤maxLen∧∀ r ∈ l,r.length≤maxLen∧∀ c ∈ r,c.length≤maxLen:=by
 obtain ⟨xs,g,_,hx⟩:=aEe (X:={r:List (List (Int × Int)) // r.length≤maxLen∧∀ c ∈ r,c.length≤maxLen}) (en:=fun r=>aH7 r.1) Try.underlying28 (by rw [aSI];omega) (fun k cs d ps hk hh=>by obtain ⟨l,a,b⟩:=aQV hh;exact ⟨⟨l,b⟩,a⟩) h
 refine ⟨xs.map (·.1),?_,by simpa using hx,fun r hr => ?_⟩
 ·rw [List.map_map];exact g
 ·obtain ⟨x,_,rfl⟩:=List.mem_map.1 hr
  exact x.2
theorem aRX (l:List (Int × Int)):LiA l (.vsl false (l.map aAv)):=.inr ⟨false,rfl⟩
theorem aRd (l:List (List (Int × Int))):LiG LiA l (.vsl false (l.map aId)):=.inr ⟨false,_,rfl,by simp,fun j hj=>⟨.vsl false (l[j].map aAv),by simp [hj,aId],aRX _⟩⟩
theorem aRc (l:List (List (List (Int × Int)))):LiG (LiG LiA) l (.vsl false (l.map aH7)):=.inr ⟨false,_,rfl,by simp,fun j hj=>⟨.vsl false (l[j].map aId),by simp [hj,aH7],aRd _⟩⟩
theorem aPS (h:Tr enc Try.prog w n 31 cs d ps):∃ t:TabD,Cs w cs [.vsl false (t.acts.map aH7),.vsl false (t.gotos.map fun r=>[.vsl false (eIs r)])]∧TabLen t:=by
 obtain ⟨m,rfl,hl,hf⟩:=aHo Try.underlying31 h
 rw [aSc] at hl
 obtain ⟨a0,a1,rfl⟩:∃ a0 a1,cs=[a0,a1]:=by
  match cs,hl with
  | [a,b],_=>exact ⟨a,b,rfl⟩
 obtain ⟨d0,p0,h0⟩:=hf 0 _ rfl
 obtain ⟨d1,p1,h1⟩:=hf 1 _ rfl
 replace h0:Tr enc Try.prog w m 28 (([a0,a1].drop 0).take (Try.prog.cellsOf 28)) d0 p0:=h0
 replace h1:Tr enc Try.prog w m 29 (([a0,a1].drop 1).take (Try.prog.cellsOf 29)) d1 p1:=h1
 rw [aSh] at h0
 rw [aSE] at h1
 obtain ⟨x,g0,b0,c0⟩:=aPV h0
 obtain ⟨y,g1,b1,c1⟩:=aQS h1
 refine ⟨⟨x,y⟩,?_,b0,b1,c0,c1⟩
 have:=g0.append g1
 simpa using this
theorem aOb {base:Nat} {v:Value} (hv:Value.okWide Try.prog w .any base 31 v) (h:DataW.Trod enc Try.prog w 0 (fun _=>true) true 31 v d ps) :
  ∃ (t:TabD) (av gv:AV),LiG (LiG LiA) t.acts av∧LiR t.gotos gv∧TabLen t∧PRep (fun _=>True) w v (.agg [av,gv]):=by
 obtain ⟨n,h⟩:=h
 unfold Value.okWide at hv
 rw [Try.underlying31] at hv
 obtain ⟨cs,rfl,_,_⟩:=hv
 obtain ⟨t,hc,b0⟩:=aPS h
 exact ⟨t,_,_,aRc _,aRW _,b0,aPJ rfl hc⟩
end
end Go.Proofs.Yteenffomgdfocaa
