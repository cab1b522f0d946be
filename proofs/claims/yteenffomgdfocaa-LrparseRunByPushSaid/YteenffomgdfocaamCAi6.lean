/- The operations, one by one: the second part: writes, new objects, addresses, slices. -/
import Derived.Test.YteenffomgdfocaamCAi5
namespace Go.Proofs.Yteenffomgdfocaa.Ai
open Go Go.RowKit
open List renaming getElem?_eq_some_iff → Q0
open Nat renaming mul_le_mul_right → Q1
set_option linter.unusedVariables false
set_option linter.unusedSimpArgs false
theorem aEu {α:Type} (l m:List α) (o j:Nat) (h:o+m.length≤l.length) :
  (l.take o++m++l.drop (o+m.length))[j]?=if j < o then l[j]? else if j < o+m.length then m[j - o]? else l[j]?:=by
 have h1:(l.take o).length=o:=by simp;omega
 rw [List.append_assoc,List.getElem?_append,h1]
 split
 ·rename_i hj
  rw [List.getElem?_take,if_pos hj]
 ·rename_i hj
  rw [List.getElem?_append]
  split
  ·rename_i hk
   rw [if_pos (by omega)]
  ·rename_i hk
   rw [if_neg (by omega),List.getElem?_drop]
   congr 1;omega
theorem aDb {α:Type} (l m:List α) (o:Nat) (h:o+m.length≤l.length):(l.take o++m++l.drop (o+m.length)).length=l.length:=by
 simp;omega
theorem aRZ {e e' sz j j':Nat} (he:e≠e') (hj:j < sz) (hj':j' < sz):e*sz+j≠e'*sz+j':=by
 rcases Nat.lt_or_gt_of_ne he with h | h
 ·have h1:(e+1)*sz≤e'*sz:=Q1 sz h
  rw [Nat.add_mul] at h1;omega
 ·have h1:(e'+1)*sz≤e*sz:=Q1 sz h
  rw [Nat.add_mul] at h1;omega
section
variable {G : Pg} {B : Nat → Prop} {S : List Ent} {w : World} {h : aA0}
theorem aHr (w:World) (g:Nat) (cs:Array Value):(w.setRow g cs).os=w.os∧(w.setRow g cs).tape=w.tape∧(w.setRow g cs).output=w.output∧(w.setRow g cs).heap.size=w.heap.size :=
 ⟨rfl,rfl,rfl,by simp⟩
theorem aAx.oneCell {vs:Array Value} {l:List AV} (h:aAx B S w vs l) (hk:l.all aAn=true):∀ u ∈ vs.toList,u.oneCell'=true:=by
 intro u hu
 obtain ⟨j,hj,e⟩:=List.getElem_of_mem hu
 have hj':j < l.length:=by rw [← h.1];simpa using hj
 have h1:=h.2 j l[j] (by simp [hj'])
 have hj2:j < vs.size:=by simpa using hj
 have e2:vs.getD j Go.undef=u:=by
  have:vs[j]=u:=by simpa using e
  simp [hj2,this]
 rw [e2] at h1
 exact (h1.cells (fun e=>by have:=List.all_eq_true.1 hk _ (List.getElem_mem hj');rw [e] at this;cases this)).2 (List.all_eq_true.1 hk _ (List.getElem_mem hj'))
theorem aCA (P:Program) (g o:Nat) (t:TypeId) (fz:Nat × Nat):∀ (vs:List Value) (i:Nat) (cur:Array Value) (w:World),w.heap[g]?=some (.cells cur t fz)→Fz fz cur.size→o+i+vs.length≤cur.size→(∀ v ∈ vs,v.oneCell'=true) →
  (storeCells ⟨g,o,none⟩ vs i).run P w=.ok () (w.setRow g (cur.toList.take (o+i)++vs++cur.toList.drop (o+i+vs.length)).toArray)
 | [],i,cur,w,hg,_,_,_=>by
  simp only [storeCells,List.append_nil,List.length_nil,Nat.add_zero,List.take_append_drop,Array.toArray_toList]
  rw [setRow_self w g cur t fz hg]
  rfl
 | v::rest,i,cur,w,hg,hz,hl,h1=>by
  have hi:o+i < cur.size:=by simp at hl;omega
  have hadd:(⟨g,o,none⟩:Addr).add i=⟨g,o+i,none⟩:=by unfold Addr.add;split <;> simp_all
  have hcell:w.cell? ⟨g,o+i,none⟩=some cur[o+i]:=by simp [World.cell?,hg,hi]
  have hfro:w.frozen? ⟨g,o+i,none⟩=false:=by
   have:=hz.no (o+i) hi
   obtain ⟨lo,hi'⟩:=fz
   simp only [World.frozen?,hg]
   exact this
  have hst:(store ((⟨g,o,none⟩:Addr).add i) v).run P w=.ok () (w.setRow g (cur.setIfInBounds (o+i) v)):=by
   rw [hadd,run_store P w _ v _ (h1 v (by simp)),hcell]
   simp [hfro,setCell_eq_setRow w g (o+i) cur t fz v hg]
  have ih:=aCA P g o t fz rest (i+1) (cur.setIfInBounds (o+i) v) (w.setRow g (cur.setIfInBounds (o+i) v)) (setRow_heap w g cur _ t _ hg) (by simpa using hz) (by simp at hl ⊢;omega) (fun x hx=>h1 x (by simp [hx]))
  simp only [storeCells,Sem.run_bind,hst,Result.andThen_ok,ih,setRow_setRow]
  congr 3
  have e:=list_seg_step cur.toList (o+i) v rest (by simp at hl ⊢;omega)
  simpa [Array.toList_setIfInBounds,Nat.add_assoc] using e
theorem aHu (hH:HeapRel G B S w h) {i v sz:Nat} {x:Bool} {l:List (List AV)} (hg:aA3 h i v=some (sz,x,l)) {t:Ent} (ht:S[i]?=some t) {cs:Array Value} {ty:TypeId}
  {fz:Nat × Nat} (hrow:w.heap[t.b]?=some (.cells cs ty fz)) (off:Nat) (us:List Value) (hoff:t.base+off+us.length≤cs.size) (l':List (List AV)) (hl':l'.length=l.length)
  (hel:∀ (e:Nat) (c:List AV),l'[e]?=some c→c.length=sz∧∀ (j:Nat) (y:AV),c[j]?=some y →
   (if e*sz+j < off then ∃ c0,l[e]?=some c0∧c0[j]?=some y else if e*sz+j < off+us.length then Rep B S w (us.getD (e*sz+j - off) Go.undef) y else ∃ c0,l[e]?=some c0∧c0[j]?=some y)) :
  let w':=w.setRow t.b (cs.toList.take (t.base+off+0)++us++cs.toList.drop (t.base+off+0+us.length)).toArray
  Evo S w S w'∧HeapRel G B S w' (h.set i (.arr v sz x l')):=by
 intro w'
 obtain ⟨t',cs',ty',h1,h2,h3,h4,h5,h6,h7,⟨fz',hz,h8⟩,h9,h10⟩:=aBA hH hg
 rw [ht] at h1;cases h1
 rw [hrow] at h8;cases h8
 obtain ⟨f1,f2,f3,f4⟩:=aHr w t.b (cs.toList.take (t.base+off+0)++us++cs.toList.drop (t.base+off+0+us.length)).toArray
 have ev:Evo S w S w':=Evo.write f1 f2 f3 f4 t.b (aDc ht) (fun k hk=>setRow_other w t.b k _ hk)
 refine HeapRel.write hH f1 f2 f3 f4 ht (fun k hk=>setRow_other w t.b k _ hk) _ ?_
 refine ⟨h3,h4,h5,by omega,by rw [hl'];exact h7,_,ty,⟨fz,?_,setRow_heap w t.b cs _ ty fz hrow⟩,?_,fun e c he => ?_⟩
 ·have:=aDb cs.toList us (t.base+off+0) (by simpa using hoff)
  simp only [List.size_toArray,this]
  simpa using hz
 ·have:=aDb cs.toList us (t.base+off+0) (by simpa using hoff)
  simp only [List.size_toArray,this]
  simpa using h9
 ·obtain ⟨k1,k2⟩:=hel e c he
  refine ⟨k1,fun j y hj => ?_⟩
  have k3:=k2 j y hj
  have hsp:=aEu cs.toList us (t.base+off+0) (t.base+e*sz+j) (by simpa using hoff)
  have hget:((cs.toList.take (t.base+off+0)++us++cs.toList.drop (t.base+off+0+us.length)).toArray).getD (t.base+e*sz+j) Go.undef =
    (if t.base+e*sz+j < t.base+off+0 then cs.toList[t.base+e*sz+j]? else if t.base+e*sz+j < t.base+off+0+us.length then us[t.base+e*sz+j - (t.base+off+0)]?
     else cs.toList[t.base+e*sz+j]?).getD Go.undef:=by
   rw [Array.getD_eq_getD_getElem?,List.getElem?_toArray,hsp]
  rw [hget]
  change Rep B S w' _ y
  clear_value w'
  by_cases c1:e*sz+j < off
  ·rw [if_pos c1] at k3
   obtain ⟨c0,m1,m2⟩:=k3
   rw [if_pos (by omega)]
   have:=((h10 e c0 m1).2 j y m2).evo ev
   simpa [Array.getD_eq_getD_getElem?] using this
  ·rw [if_neg c1] at k3
   rw [if_neg (by omega)]
   by_cases c2:e*sz+j < off+us.length
   ·rw [if_pos c2] at k3
    rw [if_pos (by omega)]
    have e1:t.base+e*sz+j - (t.base+off+0)=e*sz+j - off:=by omega
    rw [e1]
    simpa [List.getD] using k3.evo ev
   ·rw [if_neg c2] at k3
    obtain ⟨c0,m1,m2⟩:=k3
    rw [if_neg (by omega)]
    have:=((h10 e c0 m1).2 j y m2).evo ev
    simpa [Array.getD_eq_getD_getElem?] using this
theorem aHv (cells:List AV) (o:Nat) (xs:List AV) (j:Nat) (h:o+xs.length≤cells.length) :
  (aAm cells o xs)[j]?=if j < o then cells[j]? else if j < o+xs.length then xs[j - o]? else cells[j]?:=aEu _ _ _ _ h
theorem aPX (hH:HeapRel G B S w h) {ty:TypeId} {n:Nat} (hs:aAM G.P ty=some n) {va vx:Value} {a x:AV} (ha:Rep B S w va a) (hx:Rep B S w vx x) {h':aA0}
  (hr:aAq h n a x=some h'):∃ w',(Instr.storeAt ty va vx).run G.P w=.ok () w'∧Evo S w S w'∧HeapRel G B S w' h':=by
 unfold aAq at hr
 split at hr
 ·rename_i i v e o
  split at hr
  ·rename_i sz k l hg
   split at hr
   ·rename_i cells he
    split at hr
    ·rename_i hcond
     obtain ⟨hn,ho,hok⟩:=hcond
     cases hr
     obtain ⟨t,cs,rty,h1,h2,h3,h4,h5,h6,h7,⟨fz,hz,h8⟩,h9,h10⟩:=aBA hH hg
     obtain ⟨i',hi1,hi2,h0,hsz⟩:=aAZ hs
     have hv:=ha.ptr_inv h1 h3
     subst hv
     have hel:e < l.length:=(Q0.1 he).1
     have hc:=(hx.cells (fun e=>by rw [e] at hn;simp [cellsOf] at hn;omega)).1
     have hcl:(cells).length=sz:=(h10 e cells he).1
     have hin:=aBT (K:=t.K) (sz:=sz) (e:=e) (j:=0) (by omega) h5
     have hmul:e*sz+sz≤t.K*sz:=by
      have h1:(e+1)*sz≤t.K*sz:=Q1 sz (by omega)
      rw [Nat.add_mul] at h1;omega
     have hsize:vx.cells.size=n:=by rw [hc.1];exact hn
     have hst:=aCA G.P t.b (t.base+(e*sz+o)) rty fz vx.cells.toList 0 cs w h8 hz (by simp;omega) (hc.oneCell hok)
     have hw:=aHu hH hg h1 h8 (e*sz+o) vx.cells.toList (by simp;omega) (l.set e (aAm cells o (cellsOf x))) (by simp) (fun e' c' he'=>by
      by_cases ee:e=e'
      ·subst ee
       have hc':c'=aAm cells o (cellsOf x):=by simpa [hel,eq_comm] using he'
       subst hc'
       refine ⟨by unfold aAm;rw [aDb _ _ _ (by omega)];exact hcl,fun j y hj => ?_⟩
       rw [aHv _ _ _ _ (by omega)] at hj
       by_cases c1:j < o
       ·rw [if_pos c1] at hj
        rw [if_pos (by omega)];exact ⟨cells,he,hj⟩
       ·rw [if_neg c1] at hj
        rw [if_neg (by omega)]
        by_cases c2:j < o+(cellsOf x).length
        ·rw [if_pos c2] at hj
         rw [if_pos (by simp;omega)]
         have:=hc.2 _ _ hj
         have e1:e*sz+j - (e*sz+o)=j - o:=by omega
         rw [e1]
         simpa [List.getD,Array.getD_eq_getD_getElem?] using this
        ·rw [if_neg c2] at hj
         rw [if_neg (by simp;omega)];exact ⟨cells,he,hj⟩
      ·have hl2:l[e']?=some c':=by simpa [List.getElem?_set,ee] using he'
       have k1:=(h10 e' c' hl2).1
       refine ⟨k1,fun j y hj => ?_⟩
       have hj':j < sz:=by rw [← k1];exact (Q0.1 hj).1
       split
       ·exact ⟨c',hl2,hj⟩
       ·rename_i n1
        split
        ·rename_i n2
         exfalso
         have hlt2:e'*sz+j - e*sz < sz:=by simp at n2;omega
         have hge:e*sz≤e'*sz+j:=by omega
         exact aRZ (j:=j) (j':=e'*sz+j - e*sz) (fun h=>ee h.symm) hj' hlt2 (by omega)
        ·exact ⟨c',hl2,hj⟩)
     refine ⟨_,?_,hw⟩
     have e0:t.base+e*t.sz+o=t.base+(e*sz+o):=by rw [h4];omega
     simp only [Instr.storeAt,Instr.sureAddr,Sem.run_bind,Sem.run_pure,Result.andThen_ok,storeVar,hsz,hsize,e0]
     simpa using hst
    ·cases hr
   ·cases hr
  ·cases hr
 ·cases hr
theorem aOc (hH:HeapRel G B S w h) (ty:TypeId) (cs:Array Value) (fz:Nat × Nat) (hfz:Fz fz cs.size) (sz K:Nat) (x:Bool) (l:List (List AV)) (hsz:0 < sz) (hK:cs.size=K*sz) (hl:l.length≤K) (hx:x=true→l.length=K)
  (hel:∀ (e:Nat) (c:List AV),l[e]?=some c→c.length=sz∧∀ (j:Nat) (y:AV),c[j]?=some y→Rep B S w (cs.getD (e*sz+j) Go.undef) y) :
  let t:Ent:=⟨w.heap.size,0,0,sz,K⟩
  Evo S w (S++[t]) (w.alloc (.cells cs ty fz))∧HeapRel G B (S++[t]) (w.alloc (.cells cs ty fz)) (h++[.arr 0 sz x l])∧(S++[t])[h.length]?=some t:=by
 intro t
 have ev:=Evo.alloc S w (.cells cs ty fz) t (Nat.le_refl _)
 refine ⟨ev,hH.alloc _ t _ rfl ?_,by rw [← hH.len];simp⟩
 refine ⟨rfl,rfl,hsz,hl,hx,cs,ty,⟨fz,hfz,heap_alloc_new w _⟩,by show cs.size=0+K*sz;omega,fun e c he => ?_⟩
 obtain ⟨k1,k2⟩:=hel e c he
 exact ⟨k1,fun j y hj=>by
  have:=(k2 j y hj).evo ev
  have e0:t.base+e*sz+j=e*sz+j:=by show 0+e*sz+j=_;omega
  rw [e0];exact this⟩
theorem aFc (hH:HeapRel G B S w h) (ty:TypeId) (cs:Array Value) (sz K:Nat) (x:Bool) (l:List (List AV)) (hsz:0 < sz) (hK:cs.size=K*sz) (hl:l.length≤K) (hx:x=true→l.length=K)
  (hel:∀ (e:Nat) (c:List AV),l[e]?=some c→c.length=sz∧∀ (j:Nat) (y:AV),c[j]?=some y→Rep B S w (cs.getD (e*sz+j) Go.undef) y) :
  let t:Ent:=⟨w.heap.size,0,0,sz,K⟩
  Evo S w (S++[t]) (w.alloc (.cells cs ty))∧HeapRel G B (S++[t]) (w.alloc (.cells cs ty)) (h++[.arr 0 sz x l])∧(S++[t])[h.length]?=some t:=by
 intro t
 have ev:=Evo.alloc S w (.cells cs ty) t (Nat.le_refl _)
 refine ⟨ev,hH.alloc _ t _ rfl ?_,by rw [← hH.len];simp⟩
 refine ⟨rfl,rfl,hsz,hl,hx,cs,ty,⟨_,Fz.zero _,heap_alloc_new w _⟩,by show cs.size=0+K*sz;omega,fun e c he => ?_⟩
 obtain ⟨k1,k2⟩:=hel e c he
 exact ⟨k1,fun j y hj=>by
  have:=(k2 j y hj).evo ev
  have e0:t.base+e*sz+j=e*sz+j:=by show 0+e*sz+j=_;omega
  rw [e0];exact this⟩
theorem Ok.newVar (hH:HeapRel G B S w h) (ty:TypeId) (cs:Array Value) (cells:List AV) (hc:aAx B S w cs cells) (h0:0 < cells.length) (r:Result Value)
  (hr:r=.ok (.pointer (some ⟨w.heap.size,0,none⟩)) (w.alloc (.cells cs ty))):Ok G B S w r (h++[.arr 0 cells.length true [cells]]) (.ptr h.length 0 0 0):=by
 obtain ⟨ev,hH',ht⟩:=aFc hH ty cs cells.length 1 true [cells] h0 (by rw [hc.1];omega) (by simp) (by simp) (fun e c he=>by
  cases e with
  | zero=>simp at he;subst he;exact ⟨rfl,fun j y hj=>by simpa using hc.2 j y hj⟩
  | succ e=>simp at he)
 exact ⟨_,_,_,hr,ev,hH',by simpa using Rep.ptr (B:=B) (w:=w.alloc (.cells cs ty)) h.length 0 0 _ ht⟩
theorem aQB (hH:HeapRel G B S w h) {ty:TypeId} {z:List AV} (hz:aBY G.P ty=some z) :
  Ok G B S w ((Instr.alloc ty true (.tuple #[])).run G.P w) (h ++ [.arr 0 z.length true [z]]) (.ptr h.length 0 0 0) := by
 obtain ⟨i,v,h1,h2,h3,h4,h5,h6,h7⟩:=aEf (w:=w) (I:=imm B S) hz
 exact Ok.newVar hH ty v.cells z h6.reps h5 _ (by simp [Instr.alloc,h7,newVar,newRow])
theorem aSi (hH:HeapRel G B S w h) {ty:TypeId} {n:Nat} (hs:aAM G.P ty=some n) {vx:Value} {x:AV} (hx:Rep B S w vx x) (hn:(cellsOf x).length=n) :
  Ok G B S w ((Instr.box ty vx).run G.P w) (h++[.arr 0 n true [cellsOf x]]) (.ptr h.length 0 0 0):=by
 obtain ⟨i,h1,h2,h3,h4⟩:=aAZ hs
 have:=Ok.newVar hH ty vx.cells (cellsOf x) (hx.cells (fun e=>by rw [e] at hn;simp [cellsOf] at hn;omega)).1 (by omega) ((Instr.box ty vx).run G.P w) (by simp [Instr.box,newVar,newRow])
 rwa [hn] at this
theorem aGX (hH:HeapRel G B S w h) {i v sz:Nat} {x:Bool} {l:List (List AV)} (hg:aA3 h i v=some (sz,x,l)):∃ t,S[i]?=some t∧t.v=v∧t.sz=sz:=by
 obtain ⟨t,cs,ty,h1,h2,h3,h4,_⟩:=aBA hH hg
 exact ⟨t,h1,h3,h4⟩
theorem aIW (hH:HeapRel G B S w h) {val:Value} {p:AV} (hx:Rep B S w val p) {off:Nat} {y:AV} (hr:aCC h p off=some y) :
  ∃ b o,val=.pointer (some ⟨b,o,none⟩)∧Rep B S w (.pointer (some ⟨b,o+off,none⟩)) y:=by
 unfold aCC at hr
 split at hr
 ·rename_i i v e o
  cases hr
  cases hx with
  | pure _ _ h=>cases h
  | ptr _ _ _ t ht=>exact ⟨_,_,rfl,by simpa [Nat.add_assoc] using Rep.ptr (B:=B) (w:=w) i e (o+off) t ht⟩
  | ptrOld b p _ _ _ _ t ht hv=>exact ⟨b,p,rfl,.ptrOld b (p+off) i v e (o+off) t ht hv⟩
 ·rename_i cells o
  cases hr
  have:=hx.vptr_inv
  cases this with
  | vptr b base o cells f k1 k2=>exact ⟨b,base+o,rfl,by rw [Nat.add_assoc];exact .pure _ _ (.vptr b base (o+off) cells f k1 k2)⟩
 ·cases hr
theorem aM5 (hH:HeapRel G B S w h) {s f off n:Nat} {g:Bool} (hf:aFN G.P s f=some (off,n,g)) {val:Value} {p y:AV} (hx:Rep B S w val p) (hr:aCC h p off=some y) :
  Ok G B S w ((Instr.fieldAt s val f).run G.P w) h y:=by
 obtain ⟨b,o,rfl,h2⟩:=aIW hH hx hr
 obtain ⟨fs,fd,k1,k2,k3,k4,k5⟩:=aHp hf
 obtain ⟨i,m1,m2,m3,m4⟩:=aAZ k4
 refine Ok.same hH ?_ h2
 have:¬ n=0:=by omega
 simp [Instr.fieldAt,run_underlying k1,k2,Instr.sureAddr,fieldPlace,m4,this,aCb,k3]
theorem aN9 (hH:HeapRel G B S w h) {ty e len sz:Nat} (hu:G.P.underlying ty=some (.array len e)) (hs:aAM G.P e=some sz) {val:Value} {p y:AV} (hx:Rep B S w val p) {k:IntKind} {j:Int}
  (h0:0≤j) (hj:j < (len:Int)) (hr:aCC h p (j.toNat*sz)=some y):Ok G B S w ((Instr.indexAt ty val (.int k j)).run G.P w) h y:=by
 obtain ⟨b,o,rfl,h2⟩:=aIW hH hx hr
 obtain ⟨i,m1,m2,m3,m4⟩:=aAZ hs
 refine Ok.same hH ?_ h2
 simp [Instr.indexAt,run_underlying hu,Instr.sureAddr,asIntOf,h0,hj,m4,aCb]
theorem aLY (hH:HeapRel G B S w h) {ty e sz:Nat} (hu:G.P.underlying ty=some (.slice e)) (hs:aAM G.P e=some sz) {vx vi:Value} {x i y:AV} (hx:Rep B S w vx x) (hi:Rep B S w vi i)
  (hr:aAs h sz x i=some y):Ok G B S w ((Instr.indexAt ty vx vi).run G.P w) h y:=by
 obtain ⟨inf,m1,m2,m3,m4⟩:=aAZ hs
 unfold aAs at hr
 split at hr
 ·rename_i ex l k j
  have e1:=hi.int_inv;subst e1
  split at hr
  ·rename_i h0
   split at hr
   ·rename_i cells hc
    split at hr
    ·rename_i hsz
     cases hr
     have hlt:j.toNat < l.length:=(Q0.1 hc).1
     have:=hx.vsl_inv
     cases this with
     | vsl0=>simp at hlt
     | vslE=>simp at hlt
     | vsl b base sz' cap ex l f k1 k2 k3 k4 k5 =>
      have hsz':sz'=sz:=by rw [← k3 _ _ hc];exact hsz
      subst hsz'
      have hjl:j < (l.length:Int):=by omega
      refine Ok.same hH (v:=.pointer (some ⟨b,base+j.toNat*sz',none⟩)) ?_ ?_
      ·simp [Instr.indexAt,run_underlying hu,asIntOf,h0,hjl,m4,aCb]
      ·have:=PRep.vptr (I:=imm B S) (w:=w) b (base+j.toNat*sz') 0 cells (f j.toNat) (fun q c hq=>k4 _ _ q c hc hq) (fun q c hq=>k5 _ _ q c hc hq)
       exact .pure _ _ (by simpa using this)
    ·cases hr
   ·cases hr
  ·cases hr
 ·rename_i i v o n c k j
  have e1:=hi.int_inv;subst e1
  split at hr
  ·rename_i sz' x l hg
   split at hr
   ·rename_i hcond
    obtain ⟨hsz,h0,hj⟩:=hcond
    cases hr
    obtain ⟨t,h1,h3,h4⟩:=aGX hH hg
    obtain ⟨a,cap,hv,q1,q2,q3,q4,q5⟩:=hx.hsl_inv h1 h3
    subst hv
    have hcap:cap≠0:=by omega
    have ha:=q5 hcap
    subst ha
    refine Ok.same hH (v:=.pointer (some ⟨t.b,t.base+(o+j.toNat)*t.sz+0,none⟩)) ?_ (by subst h3;exact .ptr i _ 0 t h1)
    have e2:t.base+o*t.sz+j.toNat*sz=t.base+(o+j.toNat)*t.sz:=by rw [h4,hsz,Nat.add_mul];omega
    simp [Instr.indexAt,run_underlying hu,asIntOf,h0,hj,m4,aCb,e2]
   ·cases hr
  ·cases hr
 ·cases hr
end
end Go.Proofs.Yteenffomgdfocaa.Ai
