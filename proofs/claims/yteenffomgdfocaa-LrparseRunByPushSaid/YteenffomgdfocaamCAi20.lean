/- Values read through; how a function leaves; a function's contract. -/
import Derived.Test.YteenffomgdfocaamCAi19
namespace Go.Proofs.Yteenffomgdfocaa.Ai
open Go Go.RowKit
open List renaming getElem?_eq_some_iff → Q0, mem_of_getElem? → Q1, getElem?_map → Q2, all_eq_true → Q3, length_map → Q7
open Nat renaming mul_le_mul_right → Q4, add_mul → Q6
open Option.some renaming injEq → Q5
open Option renaming map_some → Q8
set_option linter.unusedVariables false
set_option linter.unusedSimpArgs false
theorem aDd {α β:Type} {f:α→Option β}:∀ {l:List α} {r:List β},aAk f l=some r→r.length=l.length∧∀ (j:Nat) (y:β),r[j]?=some y→∃ x,l[j]?=some x∧f x=some y
 | [],r,h=>by simp [aAk] at h;subst h;exact ⟨rfl,fun j y h=>by simp at h⟩
 | x::l,r,h=>by
  unfold aAk at h
  split at h
  ·rename_i y ys e1 e2
   cases h
   obtain ⟨k1,k2⟩:=aDd e2
   refine ⟨by simp [k1],fun j z hz => ?_⟩
   cases j with
   | zero=>simp at hz;subst hz;exact ⟨x,rfl,e1⟩
   | succ j=>simpa using k2 j z (by simpa using hz)
  ·cases h
theorem aBZ {α β:Type} {f g:α→Option β}:∀ {l:List α} {r:List β},aAk f l=some r→(∀ x ∈ l,∀ y,f x=some y→g x=some y)→aAk g l=some r
 | [],r,h,_=>by simpa [aAk] using h
 | x::l,r,h,hg=>by
  unfold aAk at h
  split at h
  ·rename_i y ys e1 e2
   cases h
   have h1:=hg x (List.mem_cons_self ..) y e1
   have h2:=aBZ e2 fun z hz=>hg z (List.mem_cons_of_mem _ hz)
   simp [aAk,h1,h2]
  ·cases h
theorem aOi {h:aA0} (o:AObj):∀ (d:Nat) (x:AV) (r:AV × Bool),freeze h d x=some r→freeze (h++[o]) d x=some r:=by
 intro d
 induction d with
 | zero=>intro x r hr;simp [freeze] at hr
 | succ d ih =>
  intro x r hr
  cases x with
  | ptr i v e of =>
   simp only [freeze] at hr ⊢
   cases hg:aA3 h i v with
   | none=>simp [hg] at hr
   | some q =>
    rw [aDe hg]
    simp only [hg] at hr
    simp only
    cases hl:q.2.2[e]? with
    | none=>simp only [hl] at hr;cases hr
    | some cells =>
     simp only [hl] at hr ⊢
     cases hm:aAk (freeze h d) cells with
     | none=>simp only [hm] at hr;cases hr
     | some c=>rw [aBZ hm fun x _ y hy=>ih x y hy];simpa [hm] using hr
  | hsl i v of n c =>
   simp only [freeze] at hr ⊢
   cases hg:aA3 h i v with
   | none=>simp [hg] at hr
   | some q =>
    rw [aDe hg]
    simp only [hg] at hr
    simp only
    split at hr
    ·rename_i hc
     rw [if_pos hc]
     cases hm:aAk (aAk (freeze h d)) ((q.2.2.drop of).take n) with
     | none=>simp only [hm] at hr;cases hr
     | some c=>rw [aBZ hm fun x _ y hy=>aBZ hy fun x _ y hy=>ih x y hy];simpa [hm] using hr
    ·cases hr
  | fn f a b =>
   simp only [freeze] at hr ⊢
   split at hr
   ·rename_i g a' b' e1 e2
    rw [aBZ e1 fun x _ y hy=>ih x y hy,aBZ e2 fun x _ y hy=>ih x y hy]
    exact hr
   ·cases hr
  | iface t x =>
   simp only [freeze] at hr ⊢
   cases hm:freeze h d x with
   | none=>simp [hm] at hr
   | some c=>rw [ih x c hm];simpa [hm] using hr
  | agg l =>
   simp only [freeze] at hr ⊢
   cases hm:aAk (freeze h d) l with
   | none=>simp [hm] at hr
   | some c=>rw [aBZ hm fun x _ y hy=>ih x y hy];simpa [hm] using hr
  | tup l =>
   simp only [freeze] at hr ⊢
   cases hm:aAk (freeze h d) l with
   | none=>simp [hm] at hr
   | some c=>rw [aBZ hm fun x _ y hy=>ih x y hy];simpa [hm] using hr
  | undef=>simp [freeze] at hr
  | junk=>simp [freeze] at hr
  | map i=>simp [freeze] at hr
  | _=>simpa [freeze] using hr
section
variable {G : Pg} {B : Nat → Prop} {S : List Ent} {w : World} {h : aA0}
theorem PRep.wide {v:Value} {a:AV} (hr:PRep (imm B S) w v a):PRep (fun b=>¬ B b) w v a:=hr.mono fun ad x h1 h2=>⟨h1.2,h2⟩
theorem aCR {d:Nat} (ih:∀ (x y:AV) (c:Bool) (v:Value),freeze h d x=some (y,c)→Rep B S w v x→PRep (fun b=>¬ B b) w v y∧(c=true→y=x∧PRep (imm B S) w v x))
  {l:List AV} {r:List (AV × Bool)} (hm:aAk (freeze h d) l=some r) {f:Nat→Value} (hf:∀ (j:Nat) (x:AV),l[j]?=some x→Rep B S w (f j) x) :
  (r.map (·.1)).length=l.length∧(∀ (j:Nat) (y:AV),(r.map (·.1))[j]?=some y→PRep (fun b=>¬ B b) w (f j) y) ∧
   (r.all (·.2)=true→r.map (·.1)=l∧∀ (j:Nat) (x:AV),l[j]?=some x→PRep (imm B S) w (f j) x):=by
 obtain ⟨k1,k2⟩:=aDd hm
 have get:∀ (j:Nat) (y:AV),(r.map (·.1))[j]?=some y→∃ x c,l[j]?=some x∧r[j]?=some (y,c)∧freeze h d x=some (y,c):=by
  intro j y hy
  rw [Q2] at hy
  cases hr:r[j]? with
  | none=>simp [hr] at hy
  | some p =>
   obtain ⟨y',c⟩:=p
   simp [hr] at hy;subst hy
   obtain ⟨x,h1,h2⟩:=k2 j _ hr
   exact ⟨x,c,h1,rfl,h2⟩
 refine ⟨by simp [k1],fun j y hy => ?_,fun hall => ?_⟩
 ·obtain ⟨x,c,h1,_,h2⟩:=get j y hy
  exact (ih x y c _ h2 (hf j x h1)).1
 ·rw [Q3] at hall
  have pt:∀ (j:Nat) (x:AV),l[j]?=some x→(r.map (·.1))[j]?=some x∧PRep (imm B S) w (f j) x:=by
   intro j x hx
   have hlt:j < r.length:=by rw [k1];exact (Q0.1 hx).1
   obtain ⟨x',c,g1,g2,g3⟩:=get j (r[j]).1 (by simp [hlt])
   rw [hx] at g1;cases g1
   have hc:=hall _ (Q1 g2)
   have:=(ih x _ c _ g3 (hf j x hx)).2 hc
   exact ⟨by rw [Q2,g2];simp [this.1],this.2⟩
  refine ⟨List.ext_getElem? fun j => ?_,fun j x hx=>(pt j x hx).2⟩
  cases hx:l[j]? with
  | some x=>exact (pt j x hx).1
  | none =>
   have:l.length≤j:=List.getElem?_eq_none_iff.1 hx
   exact List.getElem?_eq_none (by simp [k1];exact this)
theorem aHF (hH:HeapRel G B S w h):∀ (d:Nat) (x y:AV) (c:Bool) (v:Value),freeze h d x=some (y,c)→Rep B S w v x→PRep (fun b=>¬ B b) w v y∧(c=true→y=x∧PRep (imm B S) w v x):=by
 intro d
 induction d with
 | zero=>intro x y c v hr;simp [freeze] at hr
 | succ d ih =>
  intro x y c v hr hx
  have atom:∀ x,(∀ v,Rep B S w v x→PRep (imm B S) w v x)→Rep B S w v x→some (x,true)=some (y,c)→PRep (fun b=>¬ B b) w v y∧(c=true→y=x∧PRep (imm B S) w v x):=by
   intro x hp hx he
   cases he
   exact ⟨(hp v hx).wide,fun _=>⟨rfl,hp v hx⟩⟩
  cases x with
  | undef=>simp [freeze] at hr
  | junk=>simp [freeze] at hr
  | map i=>simp [freeze] at hr
  | bool b=>exact atom _ (fun v h=>by cases h with | pure _ _ h=>exact h) hx hr
  | int k n=>exact atom _ (fun v h=>by cases h with | pure _ _ h=>exact h) hx hr
  | str s=>exact atom _ (fun v h=>by cases h with | pure _ _ h=>exact h) hx hr
  | nilP=>exact atom _ (fun v h=>by cases h with | pure _ _ h=>exact h) hx hr
  | nilS=>exact atom _ (fun v h=>by cases h with | pure _ _ h=>exact h) hx hr
  | nilM=>exact atom _ (fun v h=>by cases h with | pure _ _ h=>exact h) hx hr
  | nilF=>exact atom _ (fun v h=>by cases h with | pure _ _ h=>exact h) hx hr
  | nilI=>exact atom _ (fun v h=>by cases h with | pure _ _ h=>exact h) hx hr
  | vptr a b=>exact atom _ (fun v h=>by cases h with | pure _ _ h=>exact h) hx hr
  | vsl a b=>exact atom _ (fun v h=>by cases h with | pure _ _ h=>exact h) hx hr
  | ptr i ve e of =>
   simp only [freeze] at hr
   split at hr
   ·rename_i sz xx l hg
    split at hr
    ·rename_i cells hl
     cases hm:aAk (freeze h d) cells with
     | none=>simp [hm] at hr
     | some r =>
      simp [hm] at hr
      obtain ⟨rfl,rfl⟩:=hr
      obtain ⟨t,cs,ty,g1,g2,g3,g4,g5,g6,g7,⟨fz,hz,g8⟩,g9,g10⟩:=aBA hH hg
      have hv:=hx.ptr_inv g1 g3
      subst hv
      obtain ⟨c1,c2⟩:=g10 e cells hl
      obtain ⟨k1,k2,_⟩:=aCR ih hm c2
      have hel:e < l.length:=(Q0.1 hl).1
      refine ⟨?_,fun h=>by cases h⟩
      refine .vptr t.b (t.base+e*t.sz) of _ (fun j=>cs.getD (t.base+e*sz+j) Go.undef) (fun j c hj=>⟨(hH.lt i t g1).2,?_⟩) k2
      have hj':j < sz:=by rw [← c1,← k1];exact (Q0.1 hj).1
      have hb:t.base+e*sz+j < cs.size:=by
       have:(e+1)*sz≤t.K*sz:=Q4 sz (by omega)
       rw [Q6] at this;rw [g9];omega
      rw [g4]
      simp [World.cell?,g8,Array.getD,hb]
    ·cases hr
   ·cases hr
  | hsl i ve of n cc =>
   simp only [freeze] at hr
   split at hr
   ·rename_i sz xx l hg
    split at hr
    ·rename_i hon
     cases hm:aAk (aAk (freeze h d)) ((l.drop of).take n) with
     | none=>simp [hm] at hr
     | some r =>
      simp [hm] at hr
      obtain ⟨rfl,rfl⟩:=hr
      obtain ⟨t,cs,ty,g1,g2,g3,g4,g5,g6,g7,⟨fz,hz,g8⟩,g9,g10⟩:=aBA hH hg
      obtain ⟨A,cap,hv,q1,q2,q3,q4,q5⟩:=hx.hsl_inv g1 g3
      subst hv
      have q6:=hx.hsl_spot g1 g3
      obtain ⟨k1,k2⟩:=aDd hm
      have hlen:(r.map fun x=>x.map (·.1)).length=n:=by simp [k1];omega
      have hA:∃ b base,A=⟨b,base,none⟩∧(cap≠0→b=t.b∧base=t.base+of*t.sz):=by
       obtain ⟨b,base,sp⟩:=A
       simp only at q6;subst q6
       exact ⟨b,base,rfl,fun h=>by have:=q5 h;cases this;exact ⟨rfl,rfl⟩⟩
      obtain ⟨b,base,rfl,hb⟩:=hA
      refine ⟨?_,fun h=>by cases h⟩
      have get:∀ (e:Nat) (c:List AV),(r.map fun x=>x.map (·.1))[e]?=some c→∃ cells rr,l[of+e]?=some cells∧aAk (freeze h d) cells=some rr∧c=rr.map (·.1)∧e < n:=by
       intro e c he
       rw [Q2] at he
       cases hr:r[e]? with
       | none=>simp [hr] at he
       | some rr =>
        simp [hr] at he;subst he
        obtain ⟨cells,h1,h2⟩:=k2 e rr hr
        have hen:e < n:=by
         have:=(Q0.1 h1).1
         simp at this;omega
        rw [List.getElem?_take_of_lt hen,List.getElem?_drop] at h1
        exact ⟨cells,rr,h1,h2,rfl,hen⟩
      have key:PRep (fun b=>¬ B b) w (.slice (some ⟨b,base,none⟩) (r.map fun x=>x.map (·.1)).length cap) (.vsl false (r.map fun x=>x.map (·.1))):=by
       refine .vsl b base sz cap false _ (fun e j=>cs.getD (t.base+(of+e)*sz+j) Go.undef) (by rw [hlen];exact q1) (fun h=>by cases h) ?_ ?_ ?_
       ·intro e c he
        obtain ⟨cells,rr,h1,h2,rfl,_⟩:=get e c he
        rw [Q7,(aDd h2).1]
        exact (g10 _ cells h1).1
       ·intro e c j x he hj
        obtain ⟨cells,rr,h1,h2,rfl,hen⟩:=get e c he
        have hcap:cap≠0:=by omega
        obtain ⟨rfl,rfl⟩:=hb hcap
        refine ⟨(hH.lt i t g1).2,?_⟩
        have hj':j < sz:=by
         have:=(Q0.1 hj).1
         rw [Q7,(aDd h2).1,(g10 _ cells h1).1] at this
         exact this
        have hb:t.base+(of+e)*sz+j < cs.size:=by
         have:(of+e+1)*sz≤t.K*sz:=Q4 sz (by omega)
         rw [Q6] at this;rw [g9];omega
        have e2:t.base+of*t.sz+e*sz+j=t.base+(of+e)*sz+j:=by rw [g4,Q6];omega
        rw [e2]
        simp [World.cell?,g8,Array.getD,hb]
       ·intro e c j x he hj
        obtain ⟨cells,rr,h1,h2,rfl,hen⟩:=get e c he
        exact (aCR ih h2 (g10 _ cells h1).2).2.1 j x hj
      rw [hlen] at key
      exact key
    ·cases hr
   ·cases hr
  | fn f a b =>
   simp only [freeze] at hr
   split at hr
   ·rename_i g a' b' e1 e2
    cases hr
    obtain ⟨v1,v2,rfl,r1,r2⟩:=hx.fn_inv
    obtain ⟨p1,p2,p3⟩:=aCR ih e1 r1.2
    obtain ⟨s1,s2,s3⟩:=aCR ih e2 r2.2
    refine ⟨.fn g v1 v2 _ _ (by rw [r1.1,p1]) (by rw [r2.1,s1]) p2 s2,fun hc => ?_⟩
    simp only [Bool.and_eq_true] at hc
    obtain ⟨c1,c2⟩:=p3 hc.1
    obtain ⟨d1,d2⟩:=s3 hc.2
    exact ⟨by rw [c1,d1],.fn g v1 v2 _ _ r1.1 r2.1 c2 d2⟩
   ·cases hr
  | iface t x =>
   simp only [freeze] at hr
   cases hm:freeze h d x with
   | none=>simp [hm] at hr
   | some p =>
    obtain ⟨y',c'⟩:=p
    simp [hm] at hr
    obtain ⟨rfl,rfl⟩:=hr
    obtain ⟨u,rfl,hu⟩:=hx.iface_inv
    obtain ⟨k1,k2⟩:=ih x y' c' u hm hu
    exact ⟨.iface t u y' k1,fun hc=>⟨by rw [(k2 hc).1],.iface t u x (k2 hc).2⟩⟩
  | agg l =>
   simp only [freeze] at hr
   cases hm:aAk (freeze h d) l with
   | none=>simp [hm] at hr
   | some r =>
    simp only [hm,Q8,Q5,Prod.mk.injEq] at hr
    obtain ⟨rfl,rfl⟩:=hr
    obtain ⟨vs,rfl,r1⟩:=hx.agg_inv
    obtain ⟨p1,p2,p3⟩:=aCR ih hm r1.2
    exact ⟨.agg vs _ (by rw [r1.1,p1]) p2,fun hc=>⟨by rw [(p3 hc).1],.agg vs l r1.1 (p3 hc).2⟩⟩
  | tup l =>
   simp only [freeze] at hr
   cases hm:aAk (freeze h d) l with
   | none=>simp [hm] at hr
   | some r =>
    simp only [hm,Q8,Q5,Prod.mk.injEq] at hr
    obtain ⟨rfl,rfl⟩:=hr
    obtain ⟨vs,rfl,r1⟩:=hx.tup_inv
    obtain ⟨p1,p2,p3⟩:=aCR ih hm r1.2
    exact ⟨.tup vs _ (by rw [r1.1,p1]) p2,fun hc=>⟨by rw [(p3 hc).1],.tup vs l r1.1 (p3 hc).2⟩⟩
theorem aH1 {I I':Nat→Prop} {w w':World} {v:Value} {x:AV} (hf:aFE x=true) (h:PRep I w v x):PRep I' w' v x:=by
 cases h <;> first | (simp [aFE] at hf;done) | constructor
theorem aJj {I I':Nat→Prop} {w w':World} {v:Value} {x:AV} (hf:aJk x=true) (h:PRep I w v x):PRep I' w' v x:=by
 cases x with
 | agg l =>
  cases h with
  | agg vs _ hs hr =>
   simp only [aJk,Q3] at hf
   exact .agg vs l hs fun j x hj=>aH1 (hf x (Q1 hj)) (hr j x hj)
 | _=>exact aH1 (by simpa [aJk] using hf) h
theorem aN7 {I I':Nat→Prop} {w w':World} {v:Value} {x:AV} (hf:aDC x=true) (h:PRep I w v x):PRep I' w' v x:=by
 cases x with
 | tup l =>
  cases h with
  | tup vs _ hs hr =>
   simp only [aDC,Q3] at hf
   exact .tup vs l hs fun j x hj=>aJj (hf x (Q1 hj)) (hr j x hj)
 | _=>exact aJj (by simpa [aDC] using hf) h
theorem aFH {d:Nat} (ih:∀ (x y:AV) (c:Bool) (v:Value),aBr h d x=true→freeze h d x=some (y,c)→Rep B S w v x→PRep (fun b=>b ∈ aBx S) w v y)
  {l:List AV} {r:List (AV × Bool)} (hc:l.all (aBr h d)=true) (hm:aAk (freeze h d) l=some r) {f:Nat→Value} (hf:∀ (j:Nat) (x:AV),l[j]?=some x→Rep B S w (f j) x) :
  (r.map (·.1)).length=l.length∧(∀ (j:Nat) (y:AV),(r.map (·.1))[j]?=some y→PRep (fun b=>b ∈ aBx S) w (f j) y):=by
 obtain ⟨k1,k2⟩:=aDd hm
 refine ⟨by simp [k1],fun j y hy => ?_⟩
 rw [Q2] at hy
 cases hr:r[j]? with
 | none=>simp [hr] at hy
 | some p =>
  obtain ⟨y',c⟩:=p
  simp [hr] at hy;subst hy
  obtain ⟨x,h1,h2⟩:=k2 j _ hr
  exact ih x y' c _ (Q3.1 hc x (Q1 h1)) h2 (hf j x h1)
theorem aMj {S:List Ent} {i:Nat} {t:Ent} (h:S[i]?=some t):t.b ∈ aBx S:=List.mem_map.2 ⟨t,Q1 h,rfl⟩
theorem aM3 (hH:HeapRel G B S w h):∀ (d:Nat) (x y:AV) (c:Bool) (v:Value),aBr h d x=true→freeze h d x=some (y,c)→Rep B S w v x→PRep (fun b=>b ∈ aBx S) w v y:=by
 intro d
 induction d with
 | zero=>intro x y c v _ hr;simp [freeze] at hr
 | succ d ih =>
  intro x y c v hcl hr hx
  have atom:∀ x,aFE x=true→(∀ v,Rep B S w v x→PRep (imm B S) w v x)→Rep B S w v x→some (x,true)=some (y,c)→PRep (fun b=>b ∈ aBx S) w v y:=by
   intro x hf hp hx he
   cases he
   exact aH1 hf (hp v hx)
  cases x with
  | undef=>simp [freeze] at hr
  | junk=>simp [freeze] at hr
  | map i=>simp [freeze] at hr
  | bool b=>exact atom _ rfl (fun v h=>by cases h with | pure _ _ h=>exact h) hx hr
  | int k n=>exact atom _ rfl (fun v h=>by cases h with | pure _ _ h=>exact h) hx hr
  | str s=>exact atom _ rfl (fun v h=>by cases h with | pure _ _ h=>exact h) hx hr
  | nilP=>exact atom _ rfl (fun v h=>by cases h with | pure _ _ h=>exact h) hx hr
  | nilS=>exact atom _ rfl (fun v h=>by cases h with | pure _ _ h=>exact h) hx hr
  | nilM=>exact atom _ rfl (fun v h=>by cases h with | pure _ _ h=>exact h) hx hr
  | nilF=>exact atom _ rfl (fun v h=>by cases h with | pure _ _ h=>exact h) hx hr
  | nilI=>exact atom _ rfl (fun v h=>by cases h with | pure _ _ h=>exact h) hx hr
  | vptr a b=>simp [aBr,aFE] at hcl
  | vsl a b=>simp [aBr,aFE] at hcl
  | ptr i ve e of =>
   simp only [freeze] at hr
   simp only [aBr] at hcl
   split at hr
   ·rename_i sz xx l hg
    simp only [hg] at hcl
    split at hr
    ·rename_i cells hl
     simp only [hl] at hcl
     cases hm:aAk (freeze h d) cells with
     | none=>simp [hm] at hr
     | some r =>
      simp [hm] at hr
      obtain ⟨rfl,rfl⟩:=hr
      obtain ⟨t,cs,ty,g1,g2,g3,g4,g5,g6,g7,⟨fz,hz,g8⟩,g9,g10⟩:=aBA hH hg
      have hv:=hx.ptr_inv g1 g3
      subst hv
      obtain ⟨c1,c2⟩:=g10 e cells hl
      obtain ⟨k1,k2⟩:=aFH ih hcl hm c2
      have hel:e < l.length:=(Q0.1 hl).1
      refine .vptr t.b (t.base+e*t.sz) of _ (fun j=>cs.getD (t.base+e*sz+j) Go.undef) (fun j c hj=>⟨aMj g1,?_⟩) k2
      have hj':j < sz:=by rw [← c1,← k1];exact (Q0.1 hj).1
      have hb:t.base+e*sz+j < cs.size:=by
       have:(e+1)*sz≤t.K*sz:=Q4 sz (by omega)
       rw [Q6] at this;rw [g9];omega
      rw [g4]
      simp [World.cell?,g8,Array.getD,hb]
    ·cases hr
   ·cases hr
  | hsl i ve of n cc =>
   simp only [freeze] at hr
   simp only [aBr] at hcl
   split at hr
   ·rename_i sz xx l hg
    simp only [hg] at hcl
    split at hr
    ·rename_i hon
     cases hm:aAk (aAk (freeze h d)) ((l.drop of).take n) with
     | none=>simp [hm] at hr
     | some r =>
      simp [hm] at hr
      obtain ⟨rfl,rfl⟩:=hr
      obtain ⟨t,cs,ty,g1,g2,g3,g4,g5,g6,g7,⟨fz,hz,g8⟩,g9,g10⟩:=aBA hH hg
      obtain ⟨A,cap,hv,q1,q2,q3,q4,q5⟩:=hx.hsl_inv g1 g3
      subst hv
      have q6:=hx.hsl_spot g1 g3
      obtain ⟨k1,k2⟩:=aDd hm
      have hlen:(r.map fun x=>x.map (·.1)).length=n:=by simp [k1];omega
      have hA:∃ b base,A=⟨b,base,none⟩∧(cap≠0→b=t.b∧base=t.base+of*t.sz):=by
       obtain ⟨b,base,sp⟩:=A
       simp only at q6;subst q6
       exact ⟨b,base,rfl,fun h=>by have:=q5 h;cases this;exact ⟨rfl,rfl⟩⟩
      obtain ⟨b,base,rfl,hb⟩:=hA
      have get:∀ (e:Nat) (c:List AV),(r.map fun x=>x.map (·.1))[e]?=some c→∃ cells rr,l[of+e]?=some cells∧aAk (freeze h d) cells=some rr∧c=rr.map (·.1)∧e < n∧cells.all (aBr h d)=true:=by
       intro e c he
       rw [Q2] at he
       cases hr:r[e]? with
       | none=>simp [hr] at he
       | some rr =>
        simp [hr] at he;subst he
        obtain ⟨cells,h1,h2⟩:=k2 e rr hr
        have hcc:=Q3.1 hcl cells (Q1 h1)
        have hen:e < n:=by
         have:=(Q0.1 h1).1
         simp at this;omega
        rw [List.getElem?_take_of_lt hen,List.getElem?_drop] at h1
        exact ⟨cells,rr,h1,h2,rfl,hen,hcc⟩
      have key:PRep (fun b=>b ∈ aBx S) w (.slice (some ⟨b,base,none⟩) (r.map fun x=>x.map (·.1)).length cap) (.vsl false (r.map fun x=>x.map (·.1))):=by
       refine .vsl b base sz cap false _ (fun e j=>cs.getD (t.base+(of+e)*sz+j) Go.undef) (by rw [hlen];exact q1) (fun h=>by cases h) ?_ ?_ ?_
       ·intro e c he
        obtain ⟨cells,rr,h1,h2,rfl,_,_⟩:=get e c he
        rw [Q7,(aDd h2).1]
        exact (g10 _ cells h1).1
       ·intro e c j x he hj
        obtain ⟨cells,rr,h1,h2,rfl,hen,_⟩:=get e c he
        have hcap:cap≠0:=by omega
        obtain ⟨rfl,rfl⟩:=hb hcap
        refine ⟨aMj g1,?_⟩
        have hj':j < sz:=by
         have:=(Q0.1 hj).1
         rw [Q7,(aDd h2).1,(g10 _ cells h1).1] at this
         exact this
        have hb:t.base+(of+e)*sz+j < cs.size:=by
         have:(of+e+1)*sz≤t.K*sz:=Q4 sz (by omega)
         rw [Q6] at this;rw [g9];omega
        have e2:t.base+of*t.sz+e*sz+j=t.base+(of+e)*sz+j:=by rw [g4,Q6];omega
        rw [e2]
        simp [World.cell?,g8,Array.getD,hb]
       ·intro e c j x he hj
        obtain ⟨cells,rr,h1,h2,rfl,hen,hcc⟩:=get e c he
        exact (aFH ih hcc h2 (g10 _ cells h1).2).2 j x hj
      rw [hlen] at key
      exact key
    ·cases hr
   ·cases hr
  | fn f a b=>simp [aBr,aFE] at hcl
  | iface t x =>
   simp only [freeze] at hr
   simp only [aBr] at hcl
   cases hm:freeze h d x with
   | none=>simp [hm] at hr
   | some p =>
    obtain ⟨y',c'⟩:=p
    simp [hm] at hr
    obtain ⟨rfl,rfl⟩:=hr
    obtain ⟨u,rfl,hu⟩:=hx.iface_inv
    exact .iface t u y' (ih x y' c' u hcl hm hu)
  | agg l =>
   simp only [freeze] at hr
   simp only [aBr] at hcl
   cases hm:aAk (freeze h d) l with
   | none=>simp [hm] at hr
   | some r =>
    simp only [hm,Q8,Q5,Prod.mk.injEq] at hr
    obtain ⟨rfl,rfl⟩:=hr
    obtain ⟨vs,rfl,r1⟩:=hx.agg_inv
    obtain ⟨p1,p2⟩:=aFH ih hcl hm r1.2
    exact .agg vs _ (by rw [r1.1,p1]) p2
  | tup l =>
   simp only [freeze] at hr
   simp only [aBr] at hcl
   cases hm:aAk (freeze h d) l with
   | none=>simp [hm] at hr
   | some r =>
    simp only [hm,Q8,Q5,Prod.mk.injEq] at hr
    obtain ⟨rfl,rfl⟩:=hr
    obtain ⟨vs,rfl,r1⟩:=hx.tup_inv
    obtain ⟨p1,p2⟩:=aFH ih hcl hm r1.2
    exact .tup vs _ (by rw [r1.1,p1]) p2
end
end Go.Proofs.Yteenffomgdfocaa.Ai
