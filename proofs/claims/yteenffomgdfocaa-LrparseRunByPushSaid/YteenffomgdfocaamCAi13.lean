/- The operations, one by one: the last part: lengths, literals, functions. -/
import Derived.Test.YteenffomgdfocaamCAi12
namespace Go.Proofs.Yteenffomgdfocaa.Ai
open Go Go.RowKit
open Nat renaming le_refl → Q0
open Option renaming map_eq_some_iff → Q1
open List renaming replicate → Q2
set_option linter.unusedVariables false
set_option linter.unusedSimpArgs false
section
variable {G : Pg} {B : Nat → Prop} {S : List Ent} {w : World} {h : aA0}
def aRe (P:Program) (t:TypeId):LenK→Prop
 | .str=>P.underlying t=some .string
 | .slice=>∃ e,P.underlying t=some (.slice e)
 | .map=>∃ k e,P.underlying t=some (.map k e)
theorem aLW (hH : HeapRel G B S w h) {t ty : TypeId} {q : LenK} (hq : aRe G.P t q) {vx : Value} {x z : AV} (hx : Rep B S w vx x) (hr : aBt h q x = some z) : Ok G B S w ((Builtin.len_ #[t] ty #[vx]).run G.P w) h z := by
 unfold aBt at hr
 split at hr
 ·cases hr
  obtain ⟨bs,rfl,rfl⟩:=hx.str_inv
  have hu:G.P.underlying t=some .string:=hq
  have hbl:bs.data.toList.length=bs.size:=Array.length_toList
  refine Ok.same hH (v:=.int .i64 bs.data.toList.length) ?_ (.int _ _)
  rw [hbl]
  simp [Builtin.len_,run_underlying hu,goInt]
 ·cases hr
  have e:=hx.nilS_inv;subst e
  obtain ⟨e,hu⟩:=hq
  exact Ok.same hH (v:=.int .i64 0) (by simp [Builtin.len_,run_underlying hu,goInt]) (.int _ _)
 ·cases hr
  obtain ⟨e,hu⟩:=hq
  have:=hx.vsl_inv
  cases this with
  | vsl0=>exact Ok.same hH (v:=.int .i64 0) (by simp [Builtin.len_,run_underlying hu,goInt]) (.int _ _)
  | vslE=>exact Ok.same hH (v:=.int .i64 0) (by simp [Builtin.len_,run_underlying hu,goInt]) (.int _ _)
  | vsl=>exact Ok.same hH (by simp [Builtin.len_,run_underlying hu,goInt]) (.int _ _)
 ·cases hr
  obtain ⟨e,hu⟩:=hq
  obtain ⟨a,cap,e⟩:=hx.hsl_shape;subst e
  exact Ok.same hH (by simp [Builtin.len_,run_underlying hu,goInt]) (.int _ _)
 ·obtain ⟨k,e,hu⟩:=hq
  cases hg:aBb h x with
  | none=>simp [hg] at hr
  | some l =>
   simp [hg] at hr;subst hr
   rcases aGd hH hx hg with ⟨rfl,rfl⟩ | ⟨i,t',es,clock,rfl,rfl,h1,h2,h3,h4,h5,h6⟩
   ·exact Ok.same hH (v:=.int .i64 0) (by simp [Builtin.len_,run_underlying hu,goInt]) (.int _ _)
   ·exact Ok.same hH (by simp [Builtin.len_,run_underlying hu,goInt,aDM h4,h5]) (.int _ _)
 ·cases hr
theorem aSb (hH : HeapRel G B S w h) {t ty e : TypeId} (hu : G.P.underlying t = some (.slice e)) {vx : Value} {x z : AV} (hx : Rep B S w vx x) (hr : aH9 h x = some z) : Ok G B S w ((Builtin.cap_ #[t] ty #[vx]).run G.P w) h z := by
 have fin : ∀ A n c, vx = .slice A n c → z = .int .i64 c → Ok G B S w ((Builtin.cap_ #[t] ty #[vx]).run G.P w) h z := by
  intro A n c hv hz
  subst hv hz
  exact Ok.same hH (v:=.int .i64 c) (by simp [Builtin.cap_,run_underlying hu,goInt]) (.int _ _)
 unfold aH9 at hr
 split at hr
 ·cases hr
  exact fin none 0 0 hx.nilS_inv rfl
 ·cases hr
  have:=hx.vsl_inv
  cases this with
  | vsl0=>exact fin none 0 0 rfl rfl
  | vslE A=>exact fin (some A) 0 0 rfl rfl
  | vsl b base sz cap ex l f k1 k2=>exact fin _ _ _ rfl (by rw [k2 rfl])
 ·rename_i i v o n c
  split at hr
  ·rename_i q1 c hg
   cases hr
   obtain ⟨sz,x,l⟩:=q1
   obtain ⟨t',g1,g3,g4⟩:=aGX hH hg
   obtain ⟨A,cap,hv,q1,q2,q3,q4,q5⟩:=hx.hsl_inv g1 g3
   exact fin _ _ _ hv (by rw [q3 _ rfl])
  ·rename_i sz l hg
   cases hr
   obtain ⟨t',cs,rty,g1,g2,g3,g4,g5,g6,g7,⟨fz,hz,g8⟩,g9,g10⟩:=aBA hH hg
   obtain ⟨A,cap,hv,q1,q2,q3,q4,q5⟩:=hx.hsl_inv g1 g3
   have:=q4 rfl
   have:=g7 rfl
   exact fin _ _ _ hv (by congr 2;omega)
  ·cases hr
 ·cases hr
theorem aPH {mx:Bool}:∀ (r:List AV) (vs:List Value) (k:IntKind) (n:Int) (z:AV),vs.length=r.length→(∀ (j:Nat) (x:AV),r[j]?=some x→Rep B S w (vs.getD j Go.undef) x)→amm mx (.int k n) r=some z →
  ∃ v,(List.foldlM (if mx then Builtin.max2 else Builtin.min2) (.int k n) vs:Sem Value).run G.P w=.ok v w∧Rep B S w v z
 | [],[],k,n,z,_,_,hr=>by cases hr;exact ⟨_,rfl,.int _ _⟩
 | [],_::_,k,n,z,hl,_,_=>by simp at hl
 | _::_,[],k,n,z,hl,_,_=>by simp at hl
 | y::r,v::vs,k,n,z,hl,hall,hr=>by
  cases y with
  | int k' m =>
   have e:=(hall 0 _ rfl).int_inv
   simp at e;subst e
   simp only [amm] at hr
   obtain ⟨v',h1,h2⟩:=aPH (mx:=mx) r vs k _ z (by simpa using hl) (fun j x hj=>by have:=hall (j+1) x (by simpa using hj);simpa using this) hr
   refine ⟨v',?_,h2⟩
   simp only [List.foldlM_cons,Sem.run_bind]
   cases mx with
   | true=>simpa [Builtin.max2] using h1
   | false=>simpa [Builtin.min2] using h1
  | _=>simp [amm] at hr
theorem aKI (hH:HeapRel G B S w h) {mx:Bool} {vs:Array Value} {l:List AV} (hv:aAx B S w vs l) {k:IntKind} {n:Int} {r:List AV} (hl:l=.int k n::r) {z:AV} (hr:amm mx (.int k n) r=some z) (tys:Array TypeId) (ty:TypeId) :
  Ok G B S w ((if mx then Builtin.max_ tys ty vs else Builtin.min_ tys ty vs).run G.P w) h z:=by
 subst hl
 obtain ⟨l⟩:=vs
 cases l with
 | nil=>have:=hv.1;simp at this
 | cons v l =>
  have e:=(hv.2 0 _ rfl).int_inv
  simp at e;subst e
  obtain ⟨v',h1,h2⟩:=aPH (G:=G) (B:=B) (S:=S) (w:=w) (mx:=mx) r l k n z (by have:=hv.1;simpa using this) (fun j x hj=>by have:=hv.2 (j+1) x (by simpa using hj);simpa [List.getD,Array.getD_eq_getD_getElem?] using this) hr
  refine Ok.same hH ?_ h2
  cases mx with
  | true=>simpa [Builtin.max_] using h1
  | false=>simpa [Builtin.min_] using h1
theorem aMZ (vs:List Value) (off:Nat):∀ (i:Nat) (cells:Array Value),off+i+vs.length≤cells.size →
  let r:=(vs.zipIdx i).foldl (fun cs (c,j)=>cs.setIfInBounds (off+j) c) cells
  r.size=cells.size∧∀ p,r.getD p Go.undef=if off+i≤p∧p < off+i+vs.length then vs.getD (p - (off+i)) Go.undef else cells.getD p Go.undef:=by
 induction vs with
 | nil =>
  intro i cells _
  refine ⟨rfl,fun p => ?_⟩
  rw [if_neg (by simp)];rfl
 | cons v vs ih =>
  intro i cells hl
  simp only [List.length_cons] at hl
  obtain ⟨h1,h2⟩:=ih (i+1) (cells.setIfInBounds (off+i) v) (by simp;omega)
  simp only [List.zipIdx_cons,List.foldl_cons]
  refine ⟨by rw [h1];simp,fun p => ?_⟩
  rw [h2]
  by_cases e:p=off+i
  ·subst e
   rw [if_neg (by omega),if_pos (by simp),Nat.sub_self]
   have:off+i < cells.size:=by omega
   simp [this]
  ·by_cases e2:off+(i+1)≤p∧p < off+(i+1)+vs.length
   ·rw [if_pos e2,if_pos (by simp;omega)]
    have:p - (off+i)=(p - (off+(i+1)))+1:=by omega
    rw [this];simp
   ·rw [if_neg e2,if_neg (by simp;omega)]
    simp only [Array.getD_eq_getD_getElem?,Array.getElem?_setIfInBounds]
    rw [if_neg (fun h=>e h.symm)]
theorem aPp {vs:Array Value} {cells:List AV} (hv:aAx B S w vs cells) {u:Value} {x:AV} (hx:Rep B S w u x) {off n:Nat} (h0:0 < n) (hn:(cellsOf x).length=n) (ho:off+n≤cells.length) :
  aAx B S w ((u.cells.zipIdx).foldl (fun cs (c,j)=>cs.setIfInBounds (off+j) c) vs) (aAm cells off (cellsOf x)):=by
 have hc:=(hx.cells (fun e=>by rw [e] at hn;simp [cellsOf] at hn;omega)).1
 have hsz:u.cells.toList.length=n:=by rw [Array.length_toList,hc.1];exact hn
 obtain ⟨h1,h2⟩:=aMZ u.cells.toList off 0 vs (by rw [hsz,hv.1];omega)
 have e0:(u.cells.zipIdx).foldl (fun cs (c,j)=>cs.setIfInBounds (off+j) c) vs=(u.cells.toList.zipIdx 0).foldl (fun cs (c,j)=>cs.setIfInBounds (off+j) c) vs:=by
  rw [← Array.foldl_toList,Array.toList_zipIdx]
 rw [e0]
 refine ⟨by rw [h1,hv.1];unfold aAm;rw [aDb _ _ _ (by omega)],fun p y hp => ?_⟩
 rw [h2]
 rw [aHv _ _ _ _ (by omega)] at hp
 by_cases a1:p < off
 ·rw [if_pos a1] at hp
  rw [if_neg (by omega)]
  exact hv.2 p y hp
 ·rw [if_neg a1] at hp
  by_cases a2:p < off+(cellsOf x).length
  ·rw [if_pos a2] at hp
   rw [if_pos (by omega)]
   have:=hc.2 _ y hp
   simpa [List.getD,Array.getD_eq_getD_getElem?] using this
  ·rw [if_neg a2] at hp
   rw [if_neg (by omega)]
   exact hv.2 p y hp
theorem aIc (place:Nat→Option (Nat × Nat)):∀ (parts:List (Nat × Value)) (ps:List (Nat × Nat × AV)) (vs:Array Value) (cells cells':List AV),aAx B S w vs cells→parts.length=ps.length →
  (∀ (j:Nat) (i:Nat) (v:Value) (o n:Nat) (x:AV),parts[j]?=some (i,v)→ps[j]?=some (o,n,x)→place i=some (o,n)∧Rep B S w v x)→aAG cells ps=some cells' →
  ∃ vs',Instr.fill place vs parts=some vs'∧aAx B S w vs' cells'
 | [],[],vs,cells,cells',hv,_,_,hr=>by cases hr;exact ⟨vs,rfl,hv⟩
 | [],_::_,_,_,_,_,hl,_,_=>by simp at hl
 | _::_,[],_,_,_,_,hl,_,_=>by simp at hl
 | (i,v)::parts,(o,n,x)::ps,vs,cells,cells',hv,hl,hall,hr=>by
  obtain ⟨hp,hx⟩:=hall 0 i v o n x rfl rfl
  simp only [aAG] at hr
  split at hr
  ·rename_i hc
   have hst:=aPp hv hx hc.1 hc.2.1 hc.2.2
   obtain ⟨vs',f1,f2⟩:=aIc place parts ps _ _ cells' hst (by simpa using hl) (fun j i' v' o' n' x' h1 h2=>hall (j+1) i' v' o' n' x' (by simpa using h1) (by simpa using h2)) hr
   refine ⟨vs',?_,f2⟩
   have hsz:v.cells.size=n:=by rw [(hx.cells (fun e=>by have:=hc.2.1;rw [e] at this;simp [cellsOf] at this;omega)).1.1];exact hc.2.1
   simp only [Instr.fill,hp]
   rw [if_neg (by rw [hsz,hv.1];simp;omega)]
   exact f1
  ·cases hr
theorem aJd {P:Program}:∀ (fs:List Field),(∀ f ∈ fs,(P.info? f.type).isSome=true)→∀ w,(fs.mapM (fun f=>do pure (f.offset,← sizeOf f.type):Field→Sem (Nat × Nat))).run P w=.ok (fs.map fun f=>(f.offset,((P.info? f.type).map (·.size)).getD 0)) w
 | [],_,w=>rfl
 | f::fs,hall,w=>by
  have h1:=hall f (by simp)
  cases hi:P.info? f.type with
  | none=>simp [hi] at h1
  | some i =>
   rw [List.mapM_cons]
   have ih:=aJd fs (fun g hg=>hall g (by simp [hg])) w
   simp [sizeOf,typeInfo,hi] at ih ⊢
   rw [ih]
   simp [hi]
theorem aMi (hH:HeapRel G B S w h) {t:TypeId} {z:List AV} {fs:Array Field} (hu:G.P.underlying t=some (.struct fs)) (hall:fs.all (fun f=>(G.P.info? f.type).isSome)=true) {parts:Array (Nat × Operand)}
  {ps:List (Nat × Nat × AX)} (hz:aBY G.P t=some z) (hc:aAk (aMg G.P t) parts.toList=some ps) {a:Act} {tl:List AV} (hf:aAx B S w a.tmps tl)
  {cs:List AV} (hr:aAG z (ps.map fun (o,n,x)=>(o,n,x.ev tl))=some cs):Ok G B S w ((Instr.build t (parts.map fun (i,x)=>(i,a.eval x))).run G.P w) h (.agg cs):=by
 obtain ⟨i,v,z1,z2,z3,z4,z5,z6,z7⟩:=aEf (w:=w) (I:=imm B S) hz
 obtain ⟨p1,p2⟩:=aDB hc
 have hpl:(fs.mapM (fun f=>do pure (f.offset,← sizeOf f.type):Field→Sem (Nat × Nat))).run G.P w=.ok (fs.map fun f=>(f.offset,((G.P.info? f.type).map (·.size)).getD 0)) w:=by
  rw [Array.mapM_eq_mapM_toList]
  have:=aJd (P:=G.P) fs.toList (fun f hf=>by
   have:=Array.all_eq_true'.1 hall f (by simpa using hf)
   exact this) w
  rw [map_eq_pure_bind,Sem.run_bind,this]
  have e:(fs.toList.map fun f=>(f.offset,((G.P.info? f.type).map (·.size)).getD 0)).toArray=fs.map fun f=>(f.offset,((G.P.info? f.type).map (·.size)).getD 0):=by
   apply Array.ext';simp
  simp only [Result.andThen_ok,Sem.run_pure,e]
 obtain ⟨vs',f1,f2⟩:=aIc (B:=B) (S:=S) (w:=w) (fun i=>(fs.map fun f=>(f.offset,((G.P.info? f.type).map (·.size)).getD 0))[i]?) (parts.map fun (i,x)=>(i,a.eval x)).toList (ps.map fun (o,n,x)=>(o,n,x.ev tl)) v.cells z cs z6.reps (by simp [p1]) (fun j i u o n x hj hq=>by
  simp only [Array.toList_map,List.getElem?_map,Q1] at hj hq
  obtain ⟨⟨i',x'⟩,hj1,hj2⟩:=hj
  obtain ⟨⟨o',n',ax'⟩,hq1,hq2⟩:=hq
  cases hj2;cases hq2
  obtain ⟨⟨i2,x2⟩,k1,k2⟩:=p2 j _ hq1
  rw [hj1] at k1;cases k1
  unfold aMg at k2
  split at k2
  ·rename_i e1 e2
   cases k2
   obtain ⟨fs',fd,m1,m2,m3,m4,m5⟩:=aHp e1
   rw [hu] at m1;cases m1
   obtain ⟨inf,q1,q2,q3,q4⟩:=aAZ m4
   exact ⟨by simp only [Array.getElem?_map];simp only at m2;rw [m2];simp [m3,q1,q2],aAC e2 hf⟩
  ·cases k2) hr
 refine Ok.same hH (v:=.agg vs') ?_ (.agg _ _ f2.1 f2.2)
 simp only [Instr.build,Sem.run_bind,z7,Result.andThen_ok,run_underlying hu,hpl]
 rw [f1]
 rfl
theorem aNe (hH:HeapRel G B S w h) {t e:TypeId} {z:List AV} {len n:Nat} (hu:G.P.underlying t=some (.array len e)) (hs:aAM G.P e=some n) {parts:Array (Nat × Operand)}
  {ps:List (Nat × Nat × AX)} (hz:aBY G.P t=some z) (hc:aAk (aJn n) parts.toList=some ps) {a:Act} {tl:List AV} (hf:aAx B S w a.tmps tl)
  {cs:List AV} (hr:aAG z (ps.map fun (o,n,x)=>(o,n,x.ev tl))=some cs):Ok G B S w ((Instr.build t (parts.map fun (i,x)=>(i,a.eval x))).run G.P w) h (.agg cs):=by
 obtain ⟨i,v,z1,z2,z3,z4,z5,z6,z7⟩:=aEf (w:=w) (I:=imm B S) hz
 obtain ⟨inf,q1,q2,q3,q4⟩:=aAZ hs
 obtain ⟨p1,p2⟩:=aDB hc
 obtain ⟨vs',f1,f2⟩:=aIc (B:=B) (S:=S) (w:=w) (fun i=>some (i*n,n)) (parts.map fun (i,x)=>(i,a.eval x)).toList (ps.map fun (o,n,x)=>(o,n,x.ev tl)) v.cells z cs z6.reps (by simp [p1]) (fun j i u o n' x hj hq=>by
  simp only [Array.toList_map,List.getElem?_map,Q1] at hj hq
  obtain ⟨⟨i',x'⟩,hj1,hj2⟩:=hj
  obtain ⟨⟨o',n'',ax'⟩,hq1,hq2⟩:=hq
  cases hj2;cases hq2
  obtain ⟨⟨i2,x2⟩,k1,k2⟩:=p2 j _ hq1
  rw [hj1] at k1;cases k1
  unfold aJn at k2
  cases hx:cX x' with
  | none=>simp [hx] at k2
  | some y =>
   simp [hx] at k2
   obtain ⟨rfl,rfl,rfl⟩:=k2
   exact ⟨rfl,aAC hx hf⟩) hr
 refine Ok.same hH (v:=.agg vs') ?_ (.agg _ _ f2.1 f2.2)
 simp only [Instr.build,Sem.run_bind,z7,Result.andThen_ok,run_underlying hu,q4]
 simp only [Array.toList_map] at f1
 simp [f1]
theorem aIP (sz:Nat):∀ (n:Nat) (l:List AV) (e:Nat) (c:List AV),(aDf sz n l)[e]?=some c→e < n∧c=(l.drop (e*sz)).take sz
 | 0,l,e,c,h=>by simp [aDf] at h
 | n+1,l,e,c,h=>by
  cases e with
  | zero=>simp [aDf] at h;exact ⟨by omega,by simpa using h.symm⟩
  | succ e =>
   simp only [aDf,List.getElem?_cons_succ] at h
   obtain ⟨h1,h2⟩:=aIP sz n _ e c h
   refine ⟨by omega,?_⟩
   rw [h2,List.drop_drop,Nat.add_mul]
   congr 2;omega
theorem aEX (sz:Nat):∀ (n:Nat) (l:List AV),(aDf sz n l).length=n
 | 0,l=>rfl
 | n+1,l=>by simp [aDf,aEX sz n]
theorem aHg:∀ (ps:List (Nat × Nat × AV)) (l l':List AV),aAG l ps=some l'→l'.length=l.length
 | [],l,l',h=>by cases h;rfl
 | (o,n,x)::ps,l,l',h=>by
  simp only [aAG] at h
  split at h
  ·rename_i hc
   rw [aHg ps _ _ h]
   unfold aAm
   exact aDb _ _ _ (by omega)
  ·cases h
theorem aQd {v:Value} {x:AV} (hx:Rep B S w v x) (hp:pure1 x=true):PRep (imm B S) w v x:=by
 cases hx with
 | pure _ _ h=>exact h
 | ptr=>simp [pure1] at hp
 | ptrOld=>simp [pure1] at hp
 | hsl=>simp [pure1] at hp
 | hslOld=>simp [pure1] at hp
 | map=>simp [pure1] at hp
 | yield=>simp [pure1] at hp
 | fn g v1 v2 l1 l2 h1 h2 r1 r2 =>
  cases l1 with
  | nil =>
   cases l2 with
   | nil=>exact .fn g v1 v2 [] [] h1 h2 (fun _ _ h=>by simp at h) (fun _ _ h=>by simp at h)
   | cons=>simp [pure1] at hp
  | cons=>cases l2 <;> simp [pure1] at hp
 | iface=>simp [pure1] at hp
 | agg=>simp [pure1] at hp
 | tup=>simp [pure1] at hp
theorem aEs {α:Type} (z:List α):∀ (n p:Nat),p < n*z.length→((Q2 n z).flatten)[p]?=z[p % z.length]?
 | 0,p,h=>by simp at h
 | n+1,p,h=>by
  have h0:0 < z.length:=by
   rcases Nat.eq_zero_or_pos z.length with h0 | h0
   ·simp [h0] at h
   ·exact h0
  rw [List.replicate_succ,List.flatten_cons,List.getElem?_append]
  split
  ·rename_i hl;rw [Nat.mod_eq_of_lt hl]
  ·rename_i hl
   rw [aEs z n _ (by rw [Nat.add_mul] at h;omega),← Nat.mod_eq_sub_mod (by omega)]
theorem aLa (hH:HeapRel G B S w h) {t e:TypeId} {z:List AV} {len n:Nat} (hu:G.P.underlying t=some (.slice e)) (hs:aAM G.P e=some n) {parts:Array (Nat × Operand)}
  {ps:List (Nat × AX)} (hz:aBY G.P e=some z) (hc:aAk aMh parts.toList=some ps) {a:Act} {tl:List AV} (hf:aAx B S w a.tmps tl) (hzl:z.length=n) (hlim:len*n≤16777216) (hp:Bool)
  {cs:List AV} (hr:aAG ((Q2 len z).flatten) (aBD n (ps.map fun (i,x)=>(i,x.ev tl)))=some cs) :
  ∃ x h',(if !hp && cs.all pure1 then (AR.v (.vsl true (aDf n len cs)) h) else .v (.hsl h.length 0 0 len none) (h++[.arr 0 n true (aDf n len cs)]))=.v x h' ∧
   Ok G B S w ((Instr.buildSlice t len (parts.map fun (i,x)=>(i,a.eval x))).run G.P w) h' x:=by
 obtain ⟨i,v,z1,z2,z3,z4,z5,z6,z7⟩:=aEf (w:=w) (I:=imm B S) hz
 obtain ⟨inf,q1,q2,q3,q4⟩:=aAZ hs
 obtain ⟨p1,p2⟩:=aDB hc
 have hvz:v.cells.size=n:=by omega
 have hfl:((Q2 len z).flatten).length=len*n:=by simp [hzl]
 have h0:aAx B S w ((Array.range (len*n)).map (fun j=>v.cells[j % v.cells.size]!)) ((Q2 len z).flatten):=by
  refine ⟨by rw [hfl];simp,fun p y hpq => ?_⟩
  have hplt:p < len*n:=by rw [← hfl];exact (List.getElem?_eq_some_iff.1 hpq).1
  rw [aEs z len p (by rw [hzl];exact hplt)] at hpq
  have:=z6.reps.2 _ y hpq
  have hm:p % n < v.cells.size:=by rw [hvz];exact Nat.mod_lt _ (by omega)
  have e1:(((Array.range (len*n)).map (fun j=>v.cells[j % v.cells.size]!)).getD p Go.undef)=v.cells.getD (p % z.length) Go.undef:=by
   simp [hplt,hvz,hzl,hm]
   rw [getElem!_pos _ _ (by simpa using hm)]
   simp [hm]
  rw [e1];exact this
 obtain ⟨vs',f1,f2⟩:=aIc (B:=B) (S:=S) (w:=w) (fun i=>some (i*n,n)) (parts.map fun (i,x)=>(i,a.eval x)).toList (aBD n (ps.map fun (i,x)=>(i,x.ev tl))) _ _ cs h0 (by simp [aBD,p1]) (fun j i u o n' x hj hq=>by
  simp only [Array.toList_map,List.getElem?_map,Q1,aBD] at hj hq
  obtain ⟨⟨i',x'⟩,hj1,hj2⟩:=hj
  obtain ⟨⟨i2,ax'⟩,⟨⟨i3,ax3⟩,hq0,hq01⟩,hq2⟩:=hq
  cases hj2;cases hq01;cases hq2
  obtain ⟨⟨i2,x2⟩,k1,k2⟩:=p2 j _ hq0
  rw [hj1] at k1;cases k1
  unfold aMh at k2
  cases hx:cX x' with
  | none=>simp [hx] at k2
  | some y =>
   simp [hx] at k2
   obtain ⟨rfl,rfl⟩:=k2
   exact ⟨rfl,aAC hx hf⟩) hr
 have hcl:cs.length=len*n:=by rw [aHg _ _ _ hr,hfl]
 have run:(Instr.buildSlice t len (parts.map fun (i,x)=>(i,a.eval x))).run G.P w=.ok (.slice (some ⟨w.heap.size,0,none⟩) len len) (w.alloc (.cells vs' e)):=by
  have hnl:¬ len*n > 2 ^ 24:=by omega
  by_cases h00:len*n=0
  ·rw [h00] at f1
   have e0 : ((Array.range 0).map (fun j => v.cells[j % v.cells.size]!)) = #[] := by simp
   rw [e0] at f1
   have e1 : ((Array.range 0).map (fun j => (#[] : Array Value)[j % (#[] : Array Value).size]!)) = #[] := by simp
   unfold Instr.buildSlice
   rw [Sem.run_bind,run_underlying hu]
   simp only [Result.andThen_ok]
   rw [Sem.run_bind,q4]
   simp only [Result.andThen_ok]
   rw [if_neg hnl,if_pos h00,h00]
   simp only [Sem.run_bind,Sem.run_pure,Result.andThen_ok]
   rw [e1,f1]
   simp [newRow]
  ·unfold Instr.buildSlice
   rw [Sem.run_bind,run_underlying hu]
   simp only [Result.andThen_ok]
   rw [Sem.run_bind,q4]
   simp only [Result.andThen_ok]
   rw [if_neg hnl,if_neg h00]
   simp only [Sem.run_bind,Sem.run_pure,Result.andThen_ok,z7]
   rw [f1]
   simp [newRow]
 have hel:∀ (q:Nat) (c:List AV),(aDf n len cs)[q]?=some c→c.length=n∧∀ (j:Nat) (y:AV),c[j]?=some y→Rep B S w (vs'.getD (q*n+j) Go.undef) y∧y ∈ cs:=by
  intro q c hq
  obtain ⟨hql,rfl⟩:=aIP n len cs q c hq
  have hm:(q+1)*n≤len*n:=Nat.mul_le_mul_right n hql
  rw [Nat.add_mul] at hm
  refine ⟨by simp;omega,fun j y hj => ?_⟩
  rw [List.getElem?_take] at hj
  split at hj
  ·rw [List.getElem?_drop] at hj
   exact ⟨f2.2 _ y hj,List.mem_of_getElem? hj⟩
  ·cases hj
 split
 ·rename_i hpp
  simp only [Bool.and_eq_true] at hpp
  refine ⟨_,_,rfl,_,_,S,run,?_,?_,?_⟩
  ·have:=Evo.alloc S w (.cells vs' e) ⟨w.heap.size,0,0,n,len⟩ (Q0 _)
   exact ⟨rfl,rfl,rfl,this.size,fun b hb hn=>⟨(this.keep b hb hn).1,hn⟩,fun i t ht=>⟨t,ht,Q0 _,fun _=>rfl,fun _=>rfl⟩⟩
  ·have ev:Evo S w S (w.alloc (.cells vs' e)):=by
    have:=Evo.alloc S w (.cells vs' e) ⟨w.heap.size,0,0,n,len⟩ (Q0 _)
    exact ⟨rfl,rfl,rfl,this.size,fun b hb hn=>⟨(this.keep b hb hn).1,hn⟩,fun i t ht=>⟨t,ht,Q0 _,fun _=>rfl,fun _=>rfl⟩⟩
   exact hH.step ev hH.len hH.inj (fun i t ht=>by have:=hH.lt i t ht;rw [aBo];exact ⟨by omega,this.2⟩) (fun i t o ht ho=>.inl ⟨ht,ho,heap_alloc_old w _ _ (hH.lt i t ht).1⟩)
  ·have ev:Evo S w S (w.alloc (.cells vs' e)):=by
    have:=Evo.alloc S w (.cells vs' e) ⟨w.heap.size,0,0,n,len⟩ (Q0 _)
    exact ⟨rfl,rfl,rfl,this.size,fun b hb hn=>⟨(this.keep b hb hn).1,hn⟩,fun i t ht=>⟨t,ht,Q0 _,fun _=>rfl,fun _=>rfl⟩⟩
   have himm:imm B S w.heap.size:=⟨fun hm=>by
     obtain ⟨u,hu1,hu2⟩:=List.mem_map.1 hm
     obtain ⟨j,hj⟩:=List.getElem?_of_mem hu1
     have:=(hH.lt j u hj).1;omega,fun hB=>by have:=hH.bl _ hB;omega⟩
   have:=PRep.vsl (I:=imm B S) (w:=w.alloc (.cells vs' e)) w.heap.size 0 n len true (aDf n len cs) (fun q j=>vs'.getD (q*n+j) Go.undef) (by rw [aEX];exact Q0 _) (fun _=>(aEX n len cs).symm)
    (fun q c hq=>(hel q c hq).1) (fun q c j y hq hj=>⟨himm,by
     have hr0:=(hel q c hq).2 j y hj
     have hql:=(aIP n len cs q c hq).1
     have hj':j < n:=by rw [← (hel q c hq).1];exact (List.getElem?_eq_some_iff.1 hj).1
     have hlt:=aBT (K:=len) (sz:=n) hql hj'
     have hsz:vs'.size=len*n:=by rw [f2.1,hcl]
     have:=aIQ (w:=w.alloc (.cells vs' e)) (b:=w.heap.size) (j:=q*n+j) (heap_alloc_new w _) (by omega)
     rw [Nat.zero_add];exact this⟩)
    (fun q c j y hq hj=>by
     obtain ⟨r1,r2⟩:=(hel q c hq).2 j y hj
     exact aQd (r1.evo ev) (List.all_eq_true.1 hpp.2 y r2))
   rw [aEX] at this
   exact .pure _ _ this
 ·rename_i hpp
  obtain ⟨ev,hH',ht⟩:=aFc hH e vs' n len true (aDf n len cs) q3 (by rw [f2.1,hcl]) (by rw [aEX];exact Q0 _) (fun _=>aEX n len cs) (fun q c hq=>⟨(hel q c hq).1,fun j y hj=>((hel q c hq).2 j y hj).1⟩)
  exact ⟨_,_,rfl,_,_,_,run,ev,hH',.hsl h.length 0 len len none _ _ ht (Q0 _) (by show 0+len≤len;omega) (by simp) (fun _=>by show 0+len=len;omega) (fun _=>by simp) rfl⟩
end
end Go.Proofs.Yteenffomgdfocaa.Ai
