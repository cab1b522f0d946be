/- The operations, one by one: the eighth part: maps, lengths, literals; and all of them together. -/
import Derived.Test.YteenffomgdfocaamCAi11
namespace Go.Proofs.Yteenffomgdfocaa.Ai
open Go Go.RowKit
set_option linter.unusedVariables false
set_option linter.unusedSimpArgs false
section
variable {G : Pg} {B : Nat → Prop} {S : List Ent} {w : World} {h : aA0}
theorem aGd (hH:HeapRel G B S w h) {vm:Value} {m:AV} {l:List (AV × AV)} (hm:Rep B S w vm m) (hr:aBb h m=some l) :
  (vm=.map none∧l=[])∨∃ i t es clock,m=.map i∧vm=.map (some t.b)∧S[i]?=some t∧h[i]?=some (.map l)∧(t.sz=0∧t.K=0)∧w.heap[t.b]?=some (.map es clock)∧es.size=l.length ∧
   ∀ (j:Nat) (k' x:AV),l[j]?=some (k',x)→∃ en:MapEntry,es[j]?=some en∧Rep B S w en.key k'∧Rep B S w en.val x:=by
 unfold aBb at hr
 split at hr
 ·cases hr;exact .inl ⟨hm.nilM_inv,rfl⟩
 ·rename_i i
  split at hr
  ·rename_i l' hh
   cases hr
   have hi:i < S.length:=by rw [hH.len];exact (List.getElem?_eq_some_iff.1 hh).1
   have ht:S[i]?=some S[i]:=by simp [hi]
   obtain ⟨z0,z1,es,clock,h1,h2,h3⟩:=hH.obj i _ _ ht hh
   exact .inr ⟨i,S[i],es,clock,rfl,hm.map_inv ht,ht,hh,⟨z0,z1⟩,h1,h2,h3⟩
  ·cases hr
 ·cases hr
theorem aDM {b:Nat} {es:Array MapEntry} {clock:Nat} (hb:w.heap[b]?=some (.map es clock)):(getObj b).run G.P w=.ok (.map es clock) w:=by
 simp [getObj,Sem.run,hb]
theorem aPi (hH:HeapRel G B S w h) {mT kt et:TypeId} {q:Sc} {z:AV} (hu:G.P.underlying mT=some (.map kt et)) (hq:aBS G.P kt=some q) (hz:aJ5 G.P et=some z) {vm vk:Value} {m k:AV}
  (hm:Rep B S w vm m) (hk:Rep B S w vk k) {l:List (AV × AV)} (hl:aBb h m=some l) (hok:aDO q k=true) {r:Option (Nat × AV)} (hf:aBM q k l 0=some r) (ok:Bool) :
  Ok G B S w ((Instr.lookup mT vm vk ok).run G.P w) h (aEr ok z r):=by
 obtain ⟨zv,hz1,hz2⟩:=aP3 (w:=w) (I:=imm B S) hz
 have fin:∀ (es:Array MapEntry),es.size=l.length→(∀ (j:Nat) (k' x:AV),l[j]?=some (k',x)→∃ en:MapEntry,es[j]?=some en∧Rep B S w en.key k'∧Rep B S w en.val x) →
   ((vm = .map none ∧ es = #[]) ∨ ∃ b clock, vm = .map (some b) ∧ w.heap[b]? = some (.map es clock)) → Ok G B S w ((Instr.lookup mT vm vk ok).run G.P w) h (aEr ok z r) := by
  intro es he hall hes
  obtain ⟨r',f1,f2⟩:=aH2 (G:=G) hq hk he hall hf
  have hck:=aIL (G:=G) hq hk hok es.isEmpty 9999
  have run : (Instr.lookup mT vm vk ok).run G.P w = .ok (match r' with | some (_, v) => if ok then .tuple #[v, .bool true] else v | none => if ok then .tuple #[zv, .bool false] else zv) w := by
   rcases hes with ⟨rfl,rfl⟩ | ⟨b,clock,rfl,hb⟩
   ·unfold Instr.lookup
    simp only [Sem.run_bind,run_underlying hu,Result.andThen_ok,Sem.run_pure,hck,f1]
    cases r' with
    | none=>simp [hz2]
    | some q=>obtain ⟨q1,q2⟩:=q;simp
   ·unfold Instr.lookup
    simp only [Sem.run_bind,run_underlying hu,Result.andThen_ok,Sem.run_pure,aDM hb,hck,f1]
    cases r' with
    | none=>simp [hz2]
    | some q=>obtain ⟨q1,q2⟩:=q;simp
  rcases f2 with ⟨g1,g2⟩ | ⟨j,x,en,g1,g2,g3,g4,g6⟩
  ·subst g1 g2
   refine Ok.same hH run ?_
   cases ok
   ·simpa [aEr] using Rep.pure _ _ hz1
   ·simpa [aEr] using Rep.tup (B := B) (S := S) (w := w) #[zv, .bool false] [z, .bool false] rfl (aAx.append (aAx.single (.pure _ _ hz1)) (aAx.single (.bool false))).2
  ·subst g1 g2
   refine Ok.same hH run ?_
   cases ok
   ·simpa [aEr] using g6
   ·simpa [aEr] using Rep.tup (B := B) (S := S) (w := w) #[en.val, .bool true] [x, .bool true] rfl (aAx.append (aAx.single g6) (aAx.single (.bool true))).2
 rcases aGd hH hm hl with ⟨rfl,rfl⟩ | ⟨i,t,es,clock,rfl,rfl,h1,h2,h3,h4,h5,h6⟩
 ·exact fin #[] rfl (fun j k' x hj => by simp at hj) (.inl ⟨rfl, rfl⟩)
 ·exact fin es h5 h6 (.inr ⟨t.b,clock,rfl,h4⟩)
theorem aGa (hH:HeapRel G B S w h) {i:Nat} {t:Ent} (ht:S[i]?=some t) (hz:t.sz=0∧t.K=0) {es es':Array MapEntry} {clock clock':Nat} (hb:w.heap[t.b]?=some (.map es clock)) (l':List (AV × AV)) (hl:es'.size=l'.length)
  (hall:∀ (j:Nat) (k' x:AV),l'[j]?=some (k',x)→∃ en:MapEntry,es'[j]?=some en∧Rep B S w en.key k'∧Rep B S w en.val x) :
  let w':World:={ w with heap:=w.heap.setIfInBounds t.b (.map es' clock') }
  (setObj t.b (.map es' clock')).run G.P w=.ok () w'∧Evo S w S w'∧HeapRel G B S w' (h.set i (.map l')):=by
 intro w'
 have hlt:t.b < w.heap.size:=(Array.getElem?_eq_some_iff.1 hb).1
 have hk:∀ k,k≠t.b→w'.heap[k]?=w.heap[k]?:=fun k hk=>by
  show (w.heap.setIfInBounds t.b _)[k]?=_
  rw [Array.getElem?_setIfInBounds,if_neg (fun e=>hk e.symm)]
 have hnew:w'.heap[t.b]?=some (.map es' clock'):=by
  show (w.heap.setIfInBounds t.b _)[t.b]?=_
  simp [hlt]
 have ev:Evo S w S w':=Evo.write rfl rfl rfl (by show (w.heap.setIfInBounds t.b _).size=_;simp) t.b (aDc ht) hk
 refine ⟨by simp [setObj,Sem.run,hb,w'],HeapRel.write (w':=w') hH rfl rfl rfl (by show (w.heap.setIfInBounds t.b _).size=_;simp) ht hk _ ?_⟩
 refine ⟨hz.1,hz.2,es',clock',hnew,hl,fun j k' x hj => ?_⟩
 obtain ⟨en,e1,e2,e3⟩:=hall j k' x hj
 exact ⟨en,e1,e2.evo ev,e3.evo ev⟩
def OkU (G:Pg) (B:Nat→Prop) (S:List Ent) (w:World) (r:Result Unit) (h':aA0):Prop :=
 ∃ w' S',r=.ok () w'∧Evo S w S' w'∧HeapRel G B S' w' h'
theorem aN0 {q:Sc} {vk vk':Value} {k k':AV} (hk:Rep B S w vk k) (hk':Rep B S w vk' k') (hr:aEZ q k k'=some true) (n:Nat):Instr.sameBits n vk' vk=true:=by
 unfold aEZ at hr
 split at hr
 ·have e1:=hk.int_inv;have e2:=hk'.int_inv;subst e1 e2
  split at hr
  ·rename_i hkk;simp at hr;subst hkk hr;cases n <;> simp [Instr.sameBits]
  ·cases hr
 ·obtain ⟨a,rfl,ra⟩:=hk.str_inv;obtain ⟨c,rfl,rc⟩:=hk'.str_inv
  simp at hr
  have:a=c:=by
   have h1:a.data.toList=c.data.toList:=by rw [ra,rc,hr]
   cases a;cases c;simp at h1;simpa using h1
  subst this
  have hself:(a==a)=true:=by rw [beq_toListBytes];simp
  cases n <;> simp [Instr.sameBits,hself]
 ·have e1:=hk.bool_inv;have e2:=hk'.bool_inv;subst e1 e2
  simp at hr;subst hr
  cases n <;> simp [Instr.sameBits]
 ·cases hr
theorem aLT (hH:HeapRel G B S w h) {mT kt et:TypeId} {q:Sc} (hu:G.P.underlying mT=some (.map kt et)) (hq:aBS G.P kt=some q) {vm vk vx:Value} {i:Nat} {k x:AV}
  (hm:Rep B S w vm (.map i)) (hk:Rep B S w vk k) (hx:Rep B S w vx x) {l:List (AV × AV)} (hl:h[i]?=some (.map l)) (hok:aDO q k=true) {r:Option (Nat × AV)} (hf:aBM q k l 0=some r) :
  OkU G B S w ((Instr.mapUpdate mT vm vk vx).run G.P w) (h.set i (.map (aFL l k x r))):=by
 have hgm:aBb h (.map i)=some l:=by simp [aBb,hl]
 rcases aGd hH hm hgm with ⟨rfl,rfl⟩ | ⟨i',t,es,clock,e1,rfl,h1,h2,h3,h4,h5,h6⟩
 ·cases hm with | pure _ _ h=>cases h
 ·cases e1
  obtain ⟨r',f1,f2⟩:=aH2 (G:=G) hq hk h5 h6 hf
  have hck:=aIL (G:=G) hq hk hok false 9999
  have pre:∀ rr,(match r' with
    | some (i,_)=>do
     let key ← Instr.keyThatStays (((es[i]?).map (·.key)).getD vk) vk
     setObj t.b (.map (es.modify i fun e=>{ e with key,val:=vx }) clock)
    | none=>setObj t.b (.map (es.push { key:=vk,val:=vx,born:=clock }) (clock+1)):Sem Unit).run G.P w=rr→(Instr.mapUpdate mT (.map (some t.b)) vk vx).run G.P w=rr:=by
   intro rr hrr
   unfold Instr.mapUpdate
   simp only [Sem.run_bind,run_underlying hu,Result.andThen_ok,aDM h4,hck,f1]
   exact hrr
  rcases f2 with ⟨g1,g2⟩ | ⟨j,x',en,g1,g2,g3,⟨k',g4,g5⟩,g6⟩
  ·subst g1 g2
   obtain ⟨s1,s2,s3⟩:=aGa hH h1 h3 h4 (es':=es.push { key:=vk,val:=vx,born:=clock }) (clock':=clock+1) (l++[(k,x)]) (by simp [h5]) (fun j k' y hj=>by
    by_cases hjl:j < l.length
    ·rw [List.getElem?_append_left hjl] at hj
     obtain ⟨en,e1,e2,e3⟩:=h6 j k' y hj
     refine ⟨en,?_,e2,e3⟩
     rw [Array.getElem?_push,if_neg (by omega)];exact e1
    ·rw [List.getElem?_append_right (by omega)] at hj
     have hj0:j - l.length=0:=by cases hx0:j - l.length <;> simp [hx0] at hj;rfl
     rw [hj0] at hj
     simp at hj
     obtain ⟨rfl,rfl⟩:=hj
     exact ⟨_,by rw [Array.getElem?_push,if_pos (by omega)],hk,hx⟩)
   exact ⟨_,S,pre _ s1,s2,s3⟩
  ·subst g1 g2
   obtain ⟨en',e1,e2,e3⟩:=h6 j k' x' g4
   rw [g3] at e1;cases e1
   have hsame:=aN0 hk e2 g5 10000
   have hjl:j < l.length:=(List.getElem?_eq_some_iff.1 g4).1
   obtain ⟨s1,s2,s3⟩:=aGa hH h1 h3 h4 (es':=es.modify j fun e=>{ e with key:=vk,val:=vx }) (clock':=clock) (l.set j (k,x)) (by simp [h5]) (fun j' k' y hj=>by
    by_cases e:j=j'
    ·subst e
     simp [hjl] at hj
     obtain ⟨rfl,rfl⟩:=hj
     exact ⟨{ en with key:=vk,val:=vx },by rw [Array.getElem?_modify,if_pos rfl,g3];rfl,hk,hx⟩
    ·have hj2:l[j']?=some (k',y):=by simpa [List.getElem?_set,e] using hj
     obtain ⟨en2,e1,e2',e3'⟩:=h6 j' k' y hj2
     exact ⟨en2,by rw [Array.getElem?_modify,if_neg e];exact e1,e2',e3'⟩)
   refine ⟨_,S,pre _ ?_,s2,s3⟩
   simp only [Sem.run_bind,g3,Option.map_some,Option.getD_some,Instr.keyThatStays,hsame,if_true,Sem.run_pure,Result.andThen_ok]
   exact s1
theorem aPv (hH:HeapRel G B S w h) {mT kt et xT ty:TypeId} {q:Sc} (hu:G.P.underlying mT=some (.map kt et)) (hq:aBS G.P kt=some q) {vm vk:Value} {i:Nat} {k:AV}
  (hm:Rep B S w vm (.map i)) (hk:Rep B S w vk k) {l:List (AV × AV)} (hl:h[i]?=some (.map l)) (hok:aDO q k=true) {r:Option (Nat × AV)} (hf:aBM q k l 0=some r) (tys:Array TypeId) (ht0:tys[0]?=some mT) :
  Ok G B S w ((Builtin.delete_ tys ty #[vm, vk]).run G.P w) (h.set i (.map (aPw l r))) AV.un := by
 have hgm:aBb h (.map i)=some l:=by simp [aBb,hl]
 rcases aGd hH hm hgm with ⟨rfl,rfl⟩ | ⟨i',t,es,clock,e1,rfl,h1,h2,h3,h4,h5,h6⟩
 ·cases hm with | pure _ _ h=>cases h
 ·cases e1
  obtain ⟨r',f1,f2⟩:=aH2 (G:=G) hq hk h5 h6 hf
  have hck:=aIL (G:=G) hq hk hok es.isEmpty 9999
  have pre:∀ w',(match r' with
    | some (i,_)=>setObj t.b (.map (es.eraseIdxIfInBounds i) clock)
    | none => setObj t.b (.map es clock) : Sem Unit).run G.P w = .ok () w' → (Builtin.delete_ tys ty #[.map (some t.b), vk]).run G.P w = .ok (.tuple #[]) w' := by
   intro rr hrr
   unfold Builtin.delete_
   simp only [ht0,List.getElem?_toArray,List.getElem?_cons_zero,List.getElem?_cons_succ,Sem.run_bind,run_underlying hu,Result.andThen_ok,aDM h4,hck,f1]
   cases r' with
   | none=>simp only at hrr ⊢;rw [Sem.run_bind,hrr];rfl
   | some q=>obtain ⟨q1,q2⟩:=q;simp only at hrr ⊢;rw [Sem.run_bind,hrr];rfl
  rcases f2 with ⟨g1,g2⟩ | ⟨j,x',en,g1,g2,g3,g4,g6⟩
  ·subst g1 g2
   obtain ⟨s1,s2,s3⟩:=aGa hH h1 h3 h4 (es':=es) (clock':=clock) l h5 h6
   exact ⟨_,_,S,pre _ s1,s2,s3,.un⟩
  ·subst g1 g2
   have hjs:j < es.size:=(Array.getElem?_eq_some_iff.1 g3).1
   obtain ⟨s1,s2,s3⟩:=aGa hH h1 h3 h4 (es':=es.eraseIdxIfInBounds j) (clock':=clock) (l.eraseIdx j) (by
    have hjl:j < l.length:=by omega
    rw [List.length_eraseIdx,if_pos hjl]
    simp only [Array.eraseIdxIfInBounds,hjs,dif_pos]
    rw [Array.size_eraseIdx,h5]) (fun j' k' y hj=>by
    rw [List.getElem?_eraseIdx] at hj
    have e0:(es.eraseIdxIfInBounds j)[j']?=if j' < j then es[j']? else es[j'+1]?:=by
     simp only [Array.eraseIdxIfInBounds,hjs,dif_pos]
     rw [Array.getElem?_eraseIdx]
    rw [e0]
    split at hj
    ·rename_i hlt;rw [if_pos hlt];exact h6 j' k' y hj
    ·rename_i hlt;rw [if_neg hlt];exact h6 (j'+1) k' y hj)
   exact ⟨_,_,S,pre _ s1,s2,s3,.un⟩
end
end Go.Proofs.Yteenffomgdfocaa.Ai
