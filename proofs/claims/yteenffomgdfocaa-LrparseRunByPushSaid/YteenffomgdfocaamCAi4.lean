/- What follows from an abstract value's form; the abstract memory behind a new object, behind a write, behind a draw. -/
import Derived.Test.YteenffomgdfocaamCAi3
namespace Go.Proofs.Yteenffomgdfocaa.Ai
open Go Go.RowKit
open List renaming getElem?_eq_some_iff → Q0, getElem?_append → Q1
set_option linter.unusedVariables false
set_option linter.unusedSimpArgs false
section
variable {B : Nat → Prop} {S : List Ent} {w : World} {v : Value}
theorem Rep.int_inv {k n} (h:Rep B S w v (.int k n)):v=.int k n:=by
 cases h with
 | pure _ _ h=>cases h;rfl
theorem Rep.bool_inv {b} (h:Rep B S w v (.bool b)):v=.bool b:=by
 cases h with
 | pure _ _ h=>cases h;rfl
theorem Rep.str_inv {l} (h:Rep B S w v (.str l)):∃ s:ByteArray,v=.string s∧s.data.toList=l:=by
 cases h with
 | pure _ _ h=>cases h;exact ⟨_,rfl,rfl⟩
theorem Rep.nilP_inv (h:Rep B S w v .nilP):v=.pointer none:=by
 cases h with
 | pure _ _ h=>cases h;rfl
theorem Rep.nilS_inv (h:Rep B S w v .nilS):v=.slice none 0 0:=by
 cases h with
 | pure _ _ h=>cases h;rfl
theorem Rep.nilM_inv (h:Rep B S w v .nilM):v=.map none:=by
 cases h with
 | pure _ _ h=>cases h;rfl
theorem Rep.nilF_inv (h:Rep B S w v .nilF):v=.nilFunc:=by
 cases h with
 | pure _ _ h=>cases h;rfl
theorem Rep.nilI_inv (h:Rep B S w v .nilI):v=.nilIface:=by
 cases h with
 | pure _ _ h=>cases h;rfl
theorem Rep.vptr_inv {c o} (h:Rep B S w v (.vptr c o)):PRep (imm B S) w v (.vptr c o):=by
 cases h with
 | pure _ _ h=>exact h
theorem Rep.vsl_inv {x l} (h:Rep B S w v (.vsl x l)):PRep (imm B S) w v (.vsl x l):=by
 cases h with
 | pure _ _ h=>exact h
theorem Rep.ptr_inv {i v' e o:Nat} {t:Ent} (ht:S[i]?=some t) (hv:t.v=v') (h:Rep B S w v (.ptr i v' e o)):v=.pointer (some ⟨t.b,t.base+e*t.sz+o,none⟩):=by
 cases h with
 | pure _ _ h=>cases h
 | ptr _ _ _ t' ht'=>rw [ht] at ht';cases ht';rfl
 | ptrOld _ _ _ _ _ _ t' ht' hv=>rw [ht] at ht';cases ht';omega
theorem Rep.hsl_inv {i v' o n:Nat} {c:Option Nat} {t:Ent} (ht:S[i]?=some t) (hv:t.v=v') (h:Rep B S w v (.hsl i v' o n c)) :
  ∃ a cap,v=.slice (some a) n cap∧n≤cap∧o+cap≤t.K∧(∀ c',c=some c'→cap=c')∧(c=none→o+cap=t.K)∧(cap≠0→a=⟨t.b,t.base+o*t.sz,none⟩):=by
 cases h with
 | pure _ _ h=>cases h
 | hsl _ _ _ cap _ a t' ht' hl hK hc hn ha hsp=>rw [ht] at ht';cases ht';exact ⟨a,cap,rfl,hl,hK,hc,hn,ha⟩
 | hslOld _ _ _ _ _ _ _ t' ht' hv=>rw [ht] at ht';cases ht';omega
theorem Rep.hsl_spot {i v' o n n' cap:Nat} {a:Addr} {c:Option Nat} {t:Ent} (ht:S[i]?=some t) (hv:t.v=v') (h:Rep B S w (.slice (some a) n' cap) (.hsl i v' o n c)):a.spot=none:=by
 cases h with
 | pure _ _ h=>cases h
 | hsl _ _ _ cap _ a t' ht' hl hK hc hn ha hsp=>exact hsp
 | hslOld _ _ _ _ _ _ _ t' ht' hv=>rw [ht] at ht';cases ht';omega
theorem Rep.ptr_shape {i v' e o:Nat} (h:Rep B S w v (.ptr i v' e o)):∃ a,v=.pointer (some a):=by
 cases h with
 | pure _ _ h=>cases h
 | ptr _ _ _ t' ht'=>exact ⟨_,rfl⟩
 | ptrOld b p=>exact ⟨_,rfl⟩
theorem Rep.hsl_shape {i v' o n:Nat} {c:Option Nat} (h:Rep B S w v (.hsl i v' o n c)):∃ a cap,v=.slice (some a) n cap:=by
 cases h with
 | pure _ _ h=>cases h
 | hsl _ _ _ cap _ a t' ht'=>exact ⟨a,cap,rfl⟩
 | hslOld a _ _ _ _ cap=>exact ⟨a,cap,rfl⟩
theorem Rep.map_shape {i:Nat} (h:Rep B S w v (.map i)):∃ b t,S[i]?=some t∧b=t.b∧v=.map (some b):=by
 cases h with
 | pure _ _ h=>cases h
 | map _ t' ht'=>exact ⟨_,t',ht',rfl,rfl⟩
theorem Rep.map_inv {i:Nat} {t:Ent} (ht:S[i]?=some t) (h:Rep B S w v (.map i)):v=.map (some t.b):=by
 cases h with
 | pure _ _ h=>cases h
 | map _ t' ht' hz=>rw [ht] at ht';cases ht';rfl
theorem Rep.fn_inv {g:FuncId} {l1 l2} (h:Rep B S w v (.fn (.func g) l1 l2)):∃ v1 v2,v=.func (.func g) v1 v2∧aAx B S w v1 l1∧aAx B S w v2 l2:=by
 cases h with
 | pure _ _ h=>cases h with | fn _ v1 v2 _ _ h1 h2 r1 r2=>exact ⟨v1,v2,rfl,⟨h1,fun j x hj=>.pure _ _ (r1 j x hj)⟩,⟨h2,fun j x hj=>.pure _ _ (r2 j x hj)⟩⟩
 | fn _ v1 v2 _ _ h1 h2 r1 r2=>exact ⟨v1,v2,rfl,⟨h1,r1⟩,⟨h2,r2⟩⟩
theorem Rep.yield_inv {i : Nat} {l1 l2} {t : Ent} (ht : S[i]? = some t) (h : Rep B S w v (.fn (.yield i) l1 l2)) : v = .func (.yield t.b) #[] #[] := by
 cases h with
 | pure _ _ h=>cases h
 | yield _ t' ht' hz=>rw [ht] at ht';cases ht';rfl
theorem Rep.yield_ent {i:Nat} {l1 l2} (h:Rep B S w v (.fn (.yield i) l1 l2)):∃ t,S[i]?=some t∧t.sz=0:=by
 cases h with
 | pure _ _ h=>cases h
 | yield _ t' ht' hz=>exact ⟨t',ht',hz⟩
theorem Rep.agg_inv {l} (h:Rep B S w v (.agg l)):∃ vs,v=.agg vs∧aAx B S w vs l:=by
 cases h with
 | pure _ _ h=>cases h with | agg vs _ hs hr=>exact ⟨vs,rfl,hs,fun j x hj=>.pure _ _ (hr j x hj)⟩
 | agg vs _ hs hr=>exact ⟨vs,rfl,hs,hr⟩
theorem Rep.tup_inv {l} (h:Rep B S w v (.tup l)):∃ vs,v=.tuple vs∧aAx B S w vs l:=by
 cases h with
 | pure _ _ h=>cases h with | tup vs _ hs hr=>exact ⟨vs,rfl,hs,fun j x hj=>.pure _ _ (hr j x hj)⟩
 | tup vs _ hs hr=>exact ⟨vs,rfl,hs,hr⟩
theorem Rep.iface_inv {t x} (h:Rep B S w v (.iface t x)):∃ u,v=.iface t u∧Rep B S w u x:=by
 cases h with
 | pure _ _ h=>cases h with | iface _ u _ h=>exact ⟨u,rfl,.pure _ _ h⟩
 | iface _ u _ h=>exact ⟨u,rfl,h⟩
theorem Rep.int (k n):Rep B S w (.int k n) (.int k n):=.pure _ _ (.int k n)
theorem Rep.bool (b):Rep B S w (.bool b) (.bool b):=.pure _ _ (.bool b)
theorem Rep.str (s:ByteArray):Rep B S w (.string s) (.str s.data.toList):=.pure _ _ (.str s)
theorem Rep.str' {s:ByteArray} {l} (h:s.data.toList=l):Rep B S w (.string s) (.str l):=h ▸ .pure _ _ (.str s)
theorem Rep.un : Rep B S w Go.undef AV.un := .pure _ _ (.tup #[] [] rfl (fun _ _ h => by simp at h))
theorem aAx.getD {vs:Array Value} {l:List AV} (h:aAx B S w vs l) (j:Nat):Rep B S w (vs.getD j Go.undef) (l.getD j AV.un):=by
 by_cases hj:j < l.length
 ·have e:l[j]?=some l[j]:=by simp [hj]
  have:=h.2 j _ e
  simpa [List.getD,e] using this
 ·have e:l[j]?=none:=by simp;omega
  have e':vs[j]?=none:=by have:=h.1;simp;omega
  simp only [List.getD,e,Array.getD_eq_getD_getElem?,e',Option.getD_none]
  exact .un
theorem aAx.evo {S':List Ent} {w':World} {vs:Array Value} {l:List AV} (h:aAx B S w vs l) (ev:Evo S w S' w'):aAx B S' w' vs l :=
 ⟨h.1,fun j x hj=>(h.2 j x hj).evo ev⟩
theorem aAx.set {vs:Array Value} {l:List AV} {x:AV} (h:aAx B S w vs l) (d:Nat) (hx:Rep B S w v x):aAx B S w (vs.setIfInBounds d v) (l.set d x):=by
 refine ⟨by simp [h.1],fun j y hj => ?_⟩
 have hjl:j < l.length:=by have:=(Q0.1 hj).1;simpa using this
 have hjs:j < vs.size:=by rw [h.1];exact hjl
 by_cases e:d=j
 ·subst e
  have:y=x:=by simpa [hjl,eq_comm] using hj
  subst this
  have:(vs.setIfInBounds d v).getD d Go.undef=v:=by simp [hjs]
  rw [this];exact hx
 ·have h1:l[j]?=some y:=by simpa [List.getElem?_set,e] using hj
  have h2:=h.2 j y h1
  have:(vs.setIfInBounds d v).getD j Go.undef=vs.getD j Go.undef:=by simp [Array.getElem?_setIfInBounds,e]
  rw [this];exact h2
theorem aAx.nil : aAx B S w #[] [] := ⟨rfl, fun _ _ h => by simp at h⟩
theorem aAx.append {vs us:Array Value} {l m:List AV} (h:aAx B S w vs l) (k:aAx B S w us m):aAx B S w (vs++us) (l++m):=by
 refine ⟨by simp [h.1,k.1],fun j x hj => ?_⟩
 by_cases e:j < l.length
 ·rw [List.getElem?_append_left e] at hj
  have:=h.2 j x hj
  have e':j < vs.size:=by rw [h.1];exact e
  simpa [Array.getD_eq_getD_getElem?,Array.getElem?_append,e'] using this
 ·rw [List.getElem?_append_right (by omega)] at hj
  have:=k.2 _ x hj
  have e':¬ j < vs.size:=by rw [h.1];exact e
  rw [← h.1] at this
  simpa [Array.getD_eq_getD_getElem?,Array.getElem?_append,e'] using this
theorem aAx.single {x : AV} (h : Rep B S w v x) : aAx B S w #[v] [x] :=
 ⟨rfl,fun j y hj=>by
  cases j with
  | zero=>simp at hj;subst hj;simpa using h
  | succ j=>simp at hj⟩
theorem Rep.fn_shape {f:Fn} {l1 l2} (h:Rep B S w v (.fn f l1 l2)):∃ f' v1 v2,v=.func f' v1 v2:=by
 cases h with
 | pure _ _ h=>cases h;exact ⟨_,_,_,rfl⟩
 | fn=>exact ⟨_,_,_,rfl⟩
 | yield=>exact ⟨_,_,_,rfl⟩
theorem Rep.cells {x:AV} (h:Rep B S w v x) (hj:x≠.junk):aAx B S w v.cells (cellsOf x)∧(aAn x=true→v.oneCell'=true):=by
 cases x with
 | agg l=>obtain ⟨vs,rfl,hr⟩:=h.agg_inv;exact ⟨hr,by simp [aAn]⟩
 | undef=>cases h with | pure _ _ h=>cases h
 | junk=>exact absurd rfl hj
 | bool b=>have e:=h.bool_inv;subst e;exact ⟨.single h,fun _=>rfl⟩
 | int k n=>have e:=h.int_inv;subst e;exact ⟨.single h,fun _=>rfl⟩
 | str l=>obtain ⟨s,rfl,_⟩:=h.str_inv;exact ⟨.single h,fun _=>rfl⟩
 | nilP=>have e:=h.nilP_inv;subst e;exact ⟨.single h,fun _=>rfl⟩
 | nilS=>have e:=h.nilS_inv;subst e;exact ⟨.single h,fun _=>rfl⟩
 | nilM=>have e:=h.nilM_inv;subst e;exact ⟨.single h,fun _=>rfl⟩
 | nilF=>have e:=h.nilF_inv;subst e;exact ⟨.single h,fun _=>rfl⟩
 | nilI=>have e:=h.nilI_inv;subst e;exact ⟨.single h,fun _=>rfl⟩
 | tup l=>obtain ⟨vs,rfl,hr⟩:=h.tup_inv;exact ⟨.single h,by simp [aAn]⟩
 | iface t x=>obtain ⟨u,rfl,hr⟩:=h.iface_inv;exact ⟨.single h,fun _=>rfl⟩
 | vptr c o=>have:=h.vptr_inv;cases this;exact ⟨.single h,fun _=>rfl⟩
 | vsl e l=>have:=h.vsl_inv;cases this <;> exact ⟨.single h,fun _=>rfl⟩
 | ptr i v' e o=>obtain ⟨a,rfl⟩:=h.ptr_shape;exact ⟨.single h,fun _=>rfl⟩
 | hsl i v' o n c=>obtain ⟨a,cap,rfl⟩:=h.hsl_shape;exact ⟨.single h,fun _=>rfl⟩
 | map i=>obtain ⟨b,t,_,_,rfl⟩:=h.map_shape;exact ⟨.single h,fun _=>rfl⟩
 | fn f l1 l2=>obtain ⟨f',v1,v2,rfl⟩:=h.fn_shape;exact ⟨.single h,fun _=>rfl⟩
end
section
variable {G : Pg} {B : Nat → Prop} {S : List Ent} {w : World} {h : aA0}
theorem aDG.evo {S':List Ent} {w':World} {t:Ent} {o:AObj} (ho:aDG G B S w t o) (ev:Evo S w S' w') (hb:w'.heap[t.b]?=w.heap[t.b]?):aDG G B S' w' t o:=by
 cases o with
 | arr v sz x l =>
  obtain ⟨h1,h2,h3,h4,h5,cs,ty,⟨fz,hz,h6⟩,h7,h8⟩:=ho
  exact ⟨h1,h2,h3,h4,h5,cs,ty,⟨fz,hz,hb.trans h6⟩,h7,fun e c he=>⟨(h8 e c he).1,fun j x hj=>((h8 e c he).2 j x hj).evo ev⟩⟩
 | map l =>
  obtain ⟨h0,hk0,es,clock,h1,h2,h3⟩:=ho
  refine ⟨h0,hk0,es,clock,hb.trans h1,h2,fun j k x hj => ?_⟩
  obtain ⟨en,e1,e2,e3⟩:=h3 j k x hj
  exact ⟨en,e1,e2.evo ev,e3.evo ev⟩
 | loop st pend tl ps asg body =>
  obtain ⟨h0,hk0,L,hp,h1,h2,h3,h4,h5,h6⟩:=ho
  exact ⟨h0,hk0,L,hp,hb.trans h1,h2,h3,h4,h5.evo ev,h6⟩
theorem HeapRel.step (hH:HeapRel G B S w h) {S':List Ent} {w':World} {h':aA0} (ev:Evo S w S' w') (hl:S'.length=h'.length)
  (inj:∀ (i j:Nat) (ti tj:Ent),S'[i]?=some ti→S'[j]?=some tj→ti.b=tj.b→i=j)
  (lt:∀ (i:Nat) (t:Ent),S'[i]?=some t→t.b < w'.heap.size∧¬ B t.b)
  (obj:∀ (i:Nat) (t:Ent) (o:AObj),S'[i]?=some t→h'[i]?=some o→(S[i]?=some t∧h[i]?=some o∧w'.heap[t.b]?=w.heap[t.b]?)∨aDG G B S' w' t o) :
  HeapRel G B S' w' h' :=
 ⟨hl,inj,lt,fun i t o ht ho=>by
  rcases obj i t o ht ho with ⟨h1,h2,h3⟩ | h1
  ·exact (hH.obj i t o h1 h2).evo ev h3
  ·exact h1,fun b hb=>Nat.lt_of_lt_of_le (hH.bl b hb) ev.size⟩
theorem Evo.drew (S:List Ent) (w:World):Evo S w S w.drew :=
 ⟨rfl,rfl,rfl,Nat.le_refl _,fun _ _ h=>⟨rfl,h⟩,fun _ t h=>⟨t,h,Nat.le_refl _,fun _=>rfl,fun _=>rfl⟩⟩
theorem HeapRel.drew (hH:HeapRel G B S w h):HeapRel G B S w.drew h :=
 hH.step (Evo.drew S w) hH.len hH.inj hH.lt fun i t o ht ho=>.inl ⟨ht,ho,rfl⟩
theorem aBo (w:World) (o:Obj):(w.alloc o).heap.size=w.heap.size+1:=by
 show (w.heap.push o).size=_
 simp
theorem Evo.alloc (S:List Ent) (w:World) (o:Obj) (t:Ent) (ht:w.heap.size≤t.b):Evo S w (S++[t]) (w.alloc o):=by
 refine ⟨rfl,rfl,rfl,by rw [aBo];omega,fun b hb hn=>⟨heap_alloc_old w o b hb,?_⟩,fun i t' h=>⟨t',?_,Nat.le_refl _,fun _=>rfl,fun _=>rfl⟩⟩
 ·simp only [aBx,List.map_append,List.map_cons,List.map_nil,List.mem_append,List.mem_singleton,not_or]
  exact ⟨hn,by omega⟩
 ·rw [List.getElem?_append_left (Q0.1 h).1];exact h
theorem HeapRel.alloc (hH:HeapRel G B S w h) (o:Obj) (t:Ent) (ao:AObj) (ht:t.b=w.heap.size) (ho:aDG G B (S++[t]) (w.alloc o) t ao) :
  HeapRel G B (S++[t]) (w.alloc o) (h++[ao]):=by
 have hlen:=hH.len
 refine hH.step (Evo.alloc S w o t (by omega)) (by simp [hH.len]) ?_ ?_ ?_
 ·intro i j ti tj hi hj e
  rw [Q1] at hi hj
  split at hi <;> split at hj
  ·exact hH.inj i j ti tj hi hj e
  ·have:=(hH.lt i ti hi).1
   have e2:tj=t:=by cases hx:j - S.length <;> simp [hx] at hj;exact hj.symm
   subst e2;omega
  ·have:=(hH.lt j tj hj).1
   have e2:ti=t:=by cases hx:i - S.length <;> simp [hx] at hi;exact hi.symm
   subst e2;omega
  ·have h1:i - S.length=0:=by cases hx:i - S.length <;> simp [hx] at hi;rfl
   have h2:j - S.length=0:=by cases hx:j - S.length <;> simp [hx] at hj;rfl
   omega
 ·intro i ti hi
  rw [Q1] at hi
  split at hi
  ·have:=hH.lt i ti hi;exact ⟨by rw [aBo];omega,this.2⟩
  ·have e2:ti=t:=by cases hx:i - S.length <;> simp [hx] at hi;exact hi.symm
   subst e2
   exact ⟨by rw [aBo];omega,fun hb=>by have:=hH.bl _ hb;omega⟩
 ·intro i ti oi hi hoi
  rw [Q1] at hi hoi
  split at hi
  ·rename_i hlt
   rw [if_pos (by omega)] at hoi
   exact .inl ⟨hi,hoi,heap_alloc_old w o _ (hH.lt i ti hi).1⟩
  ·rename_i hlt
   rw [if_neg (by omega)] at hoi
   have e2:ti=t:=by cases hx:i - S.length <;> simp [hx] at hi;exact hi.symm
   have e3:oi=ao:=by cases hx:i - h.length <;> simp [hx] at hoi;exact hoi.symm
   subst e2 e3
   exact .inr ho
theorem Evo.write {w':World} (hos:w'.os=w.os) (htape:w'.tape=w.tape) (hout:w'.output=w.output) (hsz:w'.heap.size=w.heap.size) (b:Nat) (hb:b ∈ aBx S)
  (hk:∀ k,k≠b→w'.heap[k]?=w.heap[k]?):Evo S w S w' :=
 ⟨hos,htape,hout,by omega,fun k _ hn=>⟨hk k (fun e=>hn (e ▸ hb)),hn⟩,fun _ t h=>⟨t,h,Nat.le_refl _,fun _=>rfl,fun _=>rfl⟩⟩
theorem aDc {i:Nat} {t:Ent} (h:S[i]?=some t):t.b ∈ aBx S:=List.mem_map.2 ⟨t,List.mem_of_getElem? h,rfl⟩
theorem HeapRel.write (hH:HeapRel G B S w h) {w':World} (hos:w'.os=w.os) (htape:w'.tape=w.tape) (hout:w'.output=w.output) (hsz:w'.heap.size=w.heap.size)
  {i:Nat} {t:Ent} (ht:S[i]?=some t) (hk:∀ k,k≠t.b→w'.heap[k]?=w.heap[k]?) (o:AObj) (ho:aDG G B S w' t o) :
  Evo S w S w'∧HeapRel G B S w' (h.set i o):=by
 have ev:Evo S w S w':=Evo.write hos htape hout hsz t.b (aDc ht) hk
 refine ⟨ev,hH.step ev (by simp [hH.len]) hH.inj (fun j tj hj=>by have:=hH.lt j tj hj;rw [hsz];exact this) ?_⟩
 intro j tj oj hj hoj
 by_cases e:i=j
 ·subst e
  rw [ht] at hj;cases hj
  have e2:oj=o:=by
   rw [List.getElem?_set] at hoj
   simp only [if_true] at hoj
   split at hoj
   ·exact (Option.some.inj hoj).symm
   ·cases hoj
  subst e2;exact .inr ho
 ·refine .inl ⟨hj,by simpa [List.getElem?_set,e] using hoj,hk _ fun eb=>e (hH.inj i j t tj ht hj eb.symm)⟩
theorem aBA (hH:HeapRel G B S w h) {i v sz:Nat} {x:Bool} {l:List (List AV)} (hg:aA3 h i v=some (sz,x,l)) :
  ∃ t cs ty,S[i]?=some t∧h[i]?=some (.arr v sz x l)∧t.v=v∧t.sz=sz∧0 < sz∧l.length≤t.K∧(x=true→l.length=t.K)∧(∃ fz,Fz fz cs.size∧w.heap[t.b]?=some (.cells cs ty fz))∧cs.size=t.base+t.K*sz ∧
   ∀ (e:Nat) (c:List AV),l[e]?=some c→c.length=sz∧∀ (j:Nat) (y:AV),c[j]?=some y→Rep B S w (cs.getD (t.base+e*sz+j) Go.undef) y:=by
 unfold aA3 at hg
 split at hg
 ·rename_i v' sz' x' l' hh
  split at hg
  ·rename_i hv
   subst hv
   cases hg
   have hi:i < S.length:=by rw [hH.len];exact (Q0.1 hh).1
   have ht:S[i]?=some S[i]:=by simp [hi]
   obtain ⟨h1,h2,h3,h4,h5,cs,ty,h6,h7,h8⟩:=hH.obj i _ _ ht hh
   exact ⟨_,cs,ty,ht,hh,h1,h2,h3,h4,h5,h6,h7,h8⟩
  ·cases hg
 ·cases hg
end
end Go.Proofs.Yteenffomgdfocaa.Ai
