/- The operations, one by one: what the abstract interpreter says of an operation is what the model's run comes to. The first part. -/
import Derived.Test.YteenffomgdfocaamCAi4
import Derived.Laws.CopyRow
namespace Go.Proofs.Yteenffomgdfocaa.Ai
open Go Go.RowKit
open List renaming getElem?_eq_some_iff → Q0
set_option linter.unusedVariables false
set_option linter.unusedSimpArgs false
def Ok (G:Pg) (B:Nat→Prop) (S:List Ent) (w:World) (r:Result Value) (h':aA0) (x:AV):Prop :=
 ∃ v w' S',r=.ok v w'∧Evo S w S' w'∧HeapRel G B S' w' h'∧Rep B S' w' v x
section
variable {G : Pg} {B : Nat → Prop} {S : List Ent} {w : World} {h : aA0}
theorem Ok.same {r:Result Value} {v:Value} {x:AV} (hH:HeapRel G B S w h) (hr:r=.ok v w) (hx:Rep B S w v x):Ok G B S w r h x :=
 ⟨v,w,S,hr,Evo.refl S w,hH,hx⟩
theorem aMf {I:Nat→Prop} {v:Value} {x:AV} (hc:cV1 v=some x):PRep I w v x:=by
 unfold cV1 at hc
 split at hc <;> first | (cases hc;first | exact .bool _ | exact .int _ _ | exact .str _ | exact .nilP | exact .nilS | exact .nilM | exact .nilF | exact .nilI) | cases hc
theorem aDB {α β:Type} {f:α→Option β}:∀ {l:List α} {m:List β},aAk f l=some m→m.length=l.length∧∀ (j:Nat) (y:β),m[j]?=some y→∃ x,l[j]?=some x∧f x=some y
 | [],m,h=>by cases h;exact ⟨rfl,fun j y hj=>by simp at hj⟩
 | x::l,m,h=>by
  unfold aAk at h
  split at h
  ·rename_i y ys h1 h2
   cases h
   obtain ⟨e,k⟩:=aDB h2
   refine ⟨by simp [e],fun j z hj => ?_⟩
   cases j with
   | zero=>simp at hj;subst hj;exact ⟨x,by simp,h1⟩
   | succ j=>simp at hj;obtain ⟨u,h3,h4⟩:=k j z hj;exact ⟨u,by simpa using h3,h4⟩
  ·cases h
theorem aQO {I:Nat→Prop} {v:Value} {x:AV} (hc:cV v=some x):PRep I w v x:=by
 unfold cV at hc
 split at hc
 ·rename_i cs
  cases hm:aAk cV1 cs.toList with
  | none=>simp [hm] at hc
  | some l =>
   simp [hm] at hc;subst hc
   obtain ⟨e,k⟩:=aDB hm
   refine .agg _ _ (by simp [e]) fun j y hj => ?_
   obtain ⟨u,h1,h2⟩:=k j y hj
   have:cs.getD j Go.undef=u:=by
    have h3:cs[j]?=some u:=by simpa using h1
    simp [h3]
   rw [this];exact aMf h2
 ·exact aMf hc
theorem aAC {x:Operand} {ax:AX} (hc:cX x=some ax) {a:Act} {t:List AV} (hf:aAx B S w a.tmps t):Rep B S w (a.eval x) (ax.ev t):=by
 unfold cX at hc
 split at hc
 ·cases hc;exact hf.getD _
 ·rename_i v
  cases hv:cV v with
  | none=>simp [hv] at hc
  | some y=>simp [hv] at hc;subst hc;exact .pure _ _ (aQO hv)
 ·cases hc; exact .fn _ #[] #[] [] [] rfl rfl (fun _ _ h => by simp at h) (fun _ _ h => by simp at h)
 ·cases hc
theorem aPz {x:Option Operand} {ax:Option AX} (hc:cXo x=some ax) {a:Act} {t:List AV} (hf:aAx B S w a.tmps t) :
  (x=none∧ax=none)∨∃ y ay,x=some y∧ax=some ay∧Rep B S w (a.eval y) (ay.ev t):=by
 unfold cXo at hc
 split at hc
 ·cases hc;exact .inl ⟨rfl,rfl⟩
 ·rename_i y
  cases hv:cX y with
  | none=>simp [hv] at hc
  | some z=>simp [hv] at hc;subst hc;exact .inr ⟨y,z,rfl,rfl,aAC hv hf⟩
theorem aHK {l:Array Operand} {al:List AX} (hc:cXs l=some al) {a:Act} {t:List AV} (hf:aAx B S w a.tmps t):aAx B S w (l.map a.eval) (avs t al):=by
 obtain ⟨e,k⟩:=aDB hc
 refine ⟨by simp [avs,e],fun j x hj => ?_⟩
 simp only [avs,List.getElem?_map,Option.map_eq_some_iff] at hj
 obtain ⟨y,hy,rfl⟩:=hj
 obtain ⟨u,h1,h2⟩:=k j y hy
 have h3:l[j]?=some u:=by simpa using h1
 have:(l.map a.eval).getD j Go.undef=a.eval u:=by simp [h3]
 rw [this];exact aAC h2 hf
theorem aAZ {P:Program} {t:TypeId} {n:Nat} (h:aAM P t=some n):∃ i,P.info? t=some i∧i.size=n∧0 < n∧∀ w,(sizeOf t).run P w=.ok n w:=by
 unfold aAM at h
 split at h
 ·rename_i i hi
  split at h
  ·cases h
  ·cases h
   exact ⟨i,hi,rfl,by omega,fun w=>by simp [sizeOf,typeInfo,hi]⟩
 ·cases h
theorem aI5 {P:Program} {t:TypeId} {g:Bool} (h:aFO P t=some g) (w:World):(isAgg t).run P w=.ok g w:=by
 unfold aFO at h
 unfold isAgg
 cases hu:P.underlying t with
 | none=>simp [hu] at h
 | some d =>
  rw [Sem.run_bind,run_underlying hu]
  simp only [hu] at h
  cases d <;> simp_all
theorem aEf {I:Nat→Prop} {P:Program} {t:TypeId} {z:List AV} (h:aBY P t=some z) :
  ∃ i v,P.info? t=some i∧i.zero=some v∧v.cells.size=i.size∧i.size=z.length∧0 < z.length∧aGp I w v.cells z∧∀ w,(zeroValue t).run P w=.ok v w:=by
 unfold aBY at h
 split at h
 ·rename_i i hi
  split at h
  ·rename_i v hv
   split at h
   ·cases h
   ·rename_i hn
    obtain ⟨e,k⟩:=aDB h
    have e1:v.cells.size=i.size:=by omega
    have e2:z.length=v.cells.size:=by simpa using e
    refine ⟨i,v,hi,hv,e1,by omega,by omega,⟨e2.symm,fun j y hj => ?_⟩,fun w=>by simp [zeroValue,typeInfo,hi,hv]⟩
    obtain ⟨u,h1,h2⟩:=k j y hj
    have h3:v.cells[j]?=some u:=by simpa using h1
    have:v.cells.getD j Go.undef=u:=by simp [h3]
    rw [this];exact aMf h2
  ·cases h
 ·cases h
theorem aP3 {I:Nat→Prop} {P:Program} {t:TypeId} {z:AV} (h:aJ5 P t=some z):∃ v,PRep I w v z∧∀ w,(zeroValue t).run P w=.ok v w:=by
 unfold aJ5 at h
 split at h
 ·rename_i i hi
  split at h
  ·rename_i v hv
   exact ⟨v,aQO h,fun w=>by simp [zeroValue,typeInfo,hi,hv]⟩
  ·cases h
 ·cases h
theorem aGp.reps {vs:Array Value} {l:List AV} (h:aGp (imm B S) w vs l):aAx B S w vs l:=⟨h.1,fun j x hj=>.pure _ _ (h.2 j x hj)⟩
theorem aHp {P:Program} {s f:Nat} {o n:Nat} {g:Bool} (h:aFN P s f=some (o,n,g)) :
  ∃ fs fd,P.underlying s=some (.struct fs)∧fs[f]?=some fd∧fd.offset=o∧aAM P fd.type=some n∧aFO P fd.type=some g:=by
 unfold aFN at h
 split at h
 ·rename_i fs hu
  split at h
  ·rename_i fd hf
   split at h
   ·rename_i n' g' h1 h2
    cases h
    exact ⟨fs,fd,hu,hf,rfl,h1,h2⟩
   ·cases h
  ·cases h
 ·cases h
theorem aKe {cells cs:List AV} {o n:Nat} (h:part cells o n=some cs):cs.length=n∧o+n≤cells.length∧∀ (j:Nat) (y:AV),cs[j]?=some y→j < n∧cells[o+j]?=some y:=by
 unfold part at h
 split at h
 ·rename_i hle
  cases h
  refine ⟨by simp;omega,hle,fun j y hj => ?_⟩
  have hj':j < n:=by have:=(Q0.1 hj).1;simp at this;omega
  exact ⟨hj',by simpa [List.getElem?_take,hj',List.getElem?_drop] using hj⟩
 ·cases h
theorem aCb (b o j:Nat):(⟨b,o,none⟩:Addr).add j=⟨b,o+j,none⟩:=by
 unfold Addr.add
 split <;> simp_all
theorem aIQ {b j:Nat} {cs:Array Value} {ty:TypeId} {fr:Nat × Nat} (hg:w.heap[b]?=some (.cells cs ty fr)) (hj:j < cs.size):w.cell? ⟨b,j,none⟩=some (cs.getD j Go.undef):=by
 simp [World.cell?,hg,hj]
theorem aBT {e sz j K:Nat} (he:e < K) (hj:j < sz):e*sz+j < K*sz:=by
 have h1:(e+1)*sz≤K*sz:=Nat.mul_le_mul_right sz he
 rw [Nat.add_mul] at h1
 omega
theorem aPK (hH:HeapRel G B S w h) {val:Value} {p:AV} (hx:Rep B S w val p) {n:Nat} {cs:List AV} (hc:aA4 h n p=some cs) :
  cs.length=n∧∃ (b o:Nat) (f:Nat→Value),val=.pointer (some ⟨b,o,none⟩)∧∀ (j:Nat) (y:AV),cs[j]?=some y→w.cell? ⟨b,o+j,none⟩=some (f j)∧Rep B S w (f j) y:=by
 unfold aA4 at hc
 split at hc
 ·rename_i i v e o
  split at hc
  ·rename_i sz x l hg
   split at hc
   ·rename_i cells he
    obtain ⟨hp1,hp2,hp3⟩:=aKe hc
    obtain ⟨t,row,ty,h1,h2,h3,h4,h5,h6,h7,⟨fz,hz,h8⟩,h9,h10⟩:=aBA hH hg
    have hv:=hx.ptr_inv h1 h3
    have hel:e < l.length:=(Q0.1 he).1
    obtain ⟨k1,k2⟩:=h10 e cells he
    refine ⟨hp1,t.b,t.base+e*t.sz+o,fun j=>row.getD (t.base+e*sz+(o+j)) Go.undef,hv,fun j y hj => ?_⟩
    obtain ⟨m1,m2⟩:=hp3 j y hj
    have hlt:o+j < sz:=by omega
    have hin:=aBT (K:=t.K) (sz:=sz) (e:=e) (j:=o+j) (by omega) hlt
    refine ⟨?_,k2 _ _ m2⟩
    have e1:t.base+e*t.sz+o+j=t.base+e*sz+(o+j):=by rw [h4];omega
    rw [e1]
    exact aIQ h8 (by omega)
   ·cases hc
  ·cases hc
 ·rename_i cells o
  obtain ⟨hp1,hp2,hp3⟩:=aKe hc
  have:=hx.vptr_inv
  cases this with
  | vptr b base o cells f k1 k2 =>
   refine ⟨hp1,b,base+o,fun j=>f (o+j),rfl,fun j y hj => ?_⟩
   obtain ⟨m1,m2⟩:=hp3 j y hj
   exact ⟨by rw [Nat.add_assoc];exact (k1 _ _ m2).2,.pure _ _ (k2 _ _ m2)⟩
 ·cases hc
theorem aQe {P:Program} {t:TypeId} {n:Nat} {g:Bool} (hs:aAM P t=some n) (ha:aFO P t=some g) {b o:Nat} {f:Nat→Value} {cs:List AV} (hn:cs.length=n) {x:AV} (hp:aCU g cs=some x)
  (hc:∀ (j:Nat) (y:AV),cs[j]?=some y→w.cell? ⟨b,o+j,none⟩=some (f j)∧Rep B S w (f j) y):∃ v,(loadVar t ⟨b,o,none⟩).run P w=.ok v w∧Rep B S w v x:=by
 obtain ⟨i,hi,hi2,h0,hsz⟩:=aAZ hs
 unfold aCU at hp
 split at hp
 ·rename_i hg
  cases hp
  refine ⟨.agg ((List.range n).map f).toArray,?_,.agg _ _ (by simp [hn]) fun j y hj => ?_⟩
  ·have hl:=run_loadCells (P:=P) w ⟨b,o,none⟩ n f (fun j hj=>by
    rw [aCb]
    have e:cs[j]?=some cs[j]:=by simp [hn,hj]
    exact (hc j _ e).1)
   unfold loadVar
   rw [Sem.run_bind,aI5 ha]
   simp [hg,hsz,hl]
  ·have hj':j < n:=by rw [← hn];exact (Q0.1 hj).1
   have e:(((List.range n).map f).toArray).getD j Go.undef=f j:=by simp [hj']
   rw [e];exact (hc j y hj).2
 ·rename_i hg
  split at hp
  ·rename_i y
   cases hp
   have h1:=hc 0 x (by simp)
   have h2:=h1.1
   rw [Nat.add_zero] at h2
   refine ⟨f 0,?_,h1.2⟩
   unfold loadVar
   rw [Sem.run_bind,aI5 ha]
   simp [hg,h2]
  ·cases hp
theorem aNM {P:Program} (hH:HeapRel G B S w h) {t:TypeId} {n:Nat} {g:Bool} (hs:aAM P t=some n) (ha:aFO P t=some g) {val:Value} {p x:AV} (hv:Rep B S w val p)
  (hr:aA2 h n g p=some x):∃ v,(Instr.loadAt t val).run P w=.ok v w∧Rep B S w v x∧∃ ad,val=.pointer (some ad)∧(loadVar t ad).run P w=.ok v w:=by
 unfold aA2 at hr
 cases hc:aA4 h n p with
 | none=>simp [hc] at hr
 | some cs =>
  simp [hc] at hr
  obtain ⟨h1,b,o,f,rfl,h2⟩:=aPK hH hv hc
  obtain ⟨v,k1,k2⟩:=aQe hs ha h1 hr h2
  exact ⟨v,by simp [Instr.loadAt,Instr.sureAddr,k1],k2,_,rfl,k1⟩
end
end Go.Proofs.Yteenffomgdfocaa.Ai
