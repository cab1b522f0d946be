/- The operations, one by one: the fourth part. -/
import Derived.Test.YteenffomgdfocaamCAi7
namespace Go.Proofs.Yteenffomgdfocaa.Ai
open Go Go.RowKit
set_option linter.unusedVariables false
set_option linter.unusedSimpArgs false
section
variable {G : Pg} {B : Nat → Prop} {S : List Ent} {w : World} {h : aA0}
theorem Rep.not_nilIface {v:Value} {x:AV} (hx:Rep B S w v x) (hj:x≠.junk) (hn:x≠.nilI):v≠.nilIface:=by
 intro e
 subst e
 cases hx with
 | pure _ _ h=>cases h with | nilI=>exact hn rfl | junk=>exact hj rfl
theorem Rep.not_agg {v:Value} {x:AV} (hx:Rep B S w v x) (hj:x≠.junk) (hn:∀ l,x≠.agg l):∀ l,v≠.agg l:=by
 intro l e
 subst e
 cases hx with
 | pure _ _ h=>cases h with | junk=>exact hj rfl | agg=>exact hn _ rfl
 | agg _ _=>exact hn _ rfl
theorem aM9 {P:Program} {ty:TypeId} {qs:List Sc} (h:aFW P ty=some (.struct qs)):P.eqGuardType P.depth ty=false:=by
 unfold aFW at h
 split at h <;> first | (simp at h;done) | skip
 split at h
 ·cases h
 ·rename_i hg
  simp only [Bool.or_eq_true,not_or,Bool.not_eq_true] at hg
  exact hg.1
theorem aOC (q:EqK) (y:AV):aeq q .junk y=none:=by cases q <;> cases y <;> rfl
theorem aOB (q:EqK) (x:AV):aeq q x .junk=none:=by cases q <;> cases x <;> first | rfl | (rename_i l;cases l <;> rfl)
theorem aSj {op:BinOp} {ty:TypeId} {q:EqK} (hq:aFW G.P ty=some q) {vx vy:Value} {x y z:AV} (hx:Rep B S w vx x) (hy:Rep B S w vy y) (hr:aBE op q x y=some z) (ox oy:Operand) :
  ∃ v,((do eqGuard op ty ox oy vx vy;binOp op ty vx vy:Sem Value)).run G.P w=.ok v w∧Rep B S w v z:=by
 have guard:∀ {v:Value},((binOp op ty vx vy).run G.P w=.ok v w)→(eqGuard op ty ox oy vx vy).run G.P w=.ok () w→((do eqGuard op ty ox oy vx vy;binOp op ty vx vy:Sem Value)).run G.P w=.ok v w:=by
  intro v h1 h2
  rw [Sem.run_bind,h2];exact h1
 unfold aBE at hr
 split at hr
 ·rename_i k a k' b
  have e1:=hx.int_inv;have e2:=hy.int_inv;subst e1 e2
  have hg:(eqGuard op ty ox oy (.int k a) (.int k' b)).run G.P w=.ok () w:=aH6 op ty ox oy (.inl (by simp)) (.inr (.inl (by simp)))
  split at hr
  ·rename_i hs
   obtain ⟨v,h1,h2⟩:=aPC (G:=G) (B:=B) (S:=S) (w:=w) (k':=k') hr ty
   exact ⟨v,guard h1 hg,h2⟩
  ·rename_i hs
   split at hr
   ·rename_i hk
    subst hk
    obtain ⟨v,h1,h2⟩:=aRF (G:=G) (B:=B) (S:=S) (w:=w) hs hr ty
    exact ⟨v,guard h1 hg,h2⟩
   ·cases hr
 ·obtain ⟨a,rfl,rfl⟩:=hx.str_inv;obtain ⟨b,rfl,rfl⟩:=hy.str_inv
  have hg:(eqGuard op ty ox oy (.string a) (.string b)).run G.P w=.ok () w:=aH6 op ty ox oy (.inl (by simp)) (.inr (.inl (by simp)))
  obtain ⟨v,h1,h2⟩:=aRB (G:=G) (B:=B) (S:=S) (w:=w) hr ty
  exact ⟨v,guard h1 hg,h2⟩
 ·rename_i hni hns
  have hjx:x≠.junk:=fun e=>by subst e;cases op <;> simp [aOC] at hr
  have hjy:y≠.junk:=fun e=>by subst e;cases op <;> simp [aOB] at hr
  have hnx:x≠.nilI∨y≠.nilI:=by
   by_cases e:x=.nilI
   ·subst e
    exfalso
    cases op <;> simp [aeq] at hr
   ·exact .inl e
  have hgv:vx≠.nilIface∨vy≠.nilIface:=hnx.imp (fun e=>hx.not_nilIface hjx e) (fun e=>hy.not_nilIface hjy e)
  have main:∀ b,aeq q x y=some b→(eqGuard op ty ox oy vx vy).run G.P w=.ok () w∧(Op.equal ty vx vy).run G.P w=.ok b w:=by
   intro b hb
   refine ⟨aH6 op ty ox oy hgv ?_,aSn hq hx hy hb⟩
   by_cases hst:∃ qs,q=.struct qs
   ·obtain ⟨qs,rfl⟩:=hst
    exact .inl (aM9 hq)
   ·refine .inr (.inl (hx.not_agg hjx fun l e => ?_))
    subst e
    cases q <;> simp [aeq] at hb
    exact hst ⟨_,rfl⟩
  have run:∀ b,aeq q x y=some b→(binOp .eql ty vx vy).run G.P w=.ok (.bool b) w∧(binOp .neq ty vx vy).run G.P w=.ok (.bool !b) w:=by
   intro b hb
   obtain ⟨_,h2⟩:=main b hb
   have nn:(∀ k n k' m,¬ (vx=.int k n∧vy=.int k' m))∧(∀ s t,¬ (vx=.string s∧vy=.string t)):=by
    constructor
    ·rintro k n k' m ⟨rfl,rfl⟩
     cases hx with
     | pure _ _ h1=>cases h1 with | junk=>exact hjx rfl | int=>cases hy with | pure _ _ h2=>cases h2 with | junk=>exact hjy rfl | int=>exact hni _ _ _ _ rfl rfl
    ·rintro s t ⟨rfl,rfl⟩
     cases hx with
     | pure _ _ h1=>cases h1 with | junk=>exact hjx rfl | str=>cases hy with | pure _ _ h2=>cases h2 with | junk=>exact hjy rfl | str=>exact hns _ _ rfl rfl
   have nf:(∀ k n k' m,¬ (vx=.float k n∧vy=.float k' m))∧(∀ k n k' m o p,¬ (vx=.complex k n o∧vy=.complex k' m p)):=by
    constructor
    ·rintro k n k' m ⟨rfl,rfl⟩
     cases hx with | pure _ _ h1=>cases h1;exact hjx rfl
    ·rintro k n k' m o p ⟨rfl,rfl⟩
     cases hx with | pure _ _ h1=>cases h1;exact hjx rfl
   have e1:binOp .eql ty vx vy=(do pure (.bool (← Op.equal ty vx vy)):Sem Value):=by
    unfold binOp
    split <;> first | rfl | exact absurd ⟨rfl,rfl⟩ (nn.1 _ _ _ _) | exact absurd ⟨rfl,rfl⟩ (nn.2 _ _) | exact absurd ⟨rfl,rfl⟩ (nf.1 _ _ _ _) | exact absurd ⟨rfl,rfl⟩ (nf.2 _ _ _ _ _ _) | (exfalso;simp_all;done)
   have e2:binOp .neq ty vx vy=(do pure (.bool (!(← Op.equal ty vx vy))):Sem Value):=by
    unfold binOp
    split <;> first | rfl | exact absurd ⟨rfl,rfl⟩ (nn.1 _ _ _ _) | exact absurd ⟨rfl,rfl⟩ (nn.2 _ _) | exact absurd ⟨rfl,rfl⟩ (nf.1 _ _ _ _) | exact absurd ⟨rfl,rfl⟩ (nf.2 _ _ _ _ _ _) | (exfalso;simp_all;done)
   rw [e1,e2]
   simp [h2]
  cases op <;> simp only at hr <;> first | (cases hr;done) | skip
  ·cases hb:aeq q x y with
   | none=>simp [hb] at hr
   | some b=>simp [hb] at hr;subst hr;exact ⟨_,guard (run b hb).1 (main b hb).1,.bool _⟩
  ·cases hb:aeq q x y with
   | none=>simp [hb] at hr
   | some b=>simp [hb] at hr;subst hr;exact ⟨_,guard (run b hb).2 (main b hb).1,.bool _⟩
theorem aSw {op:UnOp} {vx:Value} {x z:AV} (hx:Rep B S w vx x) (hr:aun op x=some z):∃ v,(Op.unary op vx).run G.P w=.ok v w∧Rep B S w v z:=by
 unfold aun at hr
 split at hr <;> first | (cases hr;done) | skip
 ·have e1:=hx.int_inv;subst e1;cases hr;exact ⟨_,rfl,.int _ _⟩
 ·have e1:=hx.bool_inv;subst e1;cases hr;exact ⟨_,rfl,.bool _⟩
 ·have e1:=hx.int_inv;subst e1;cases hr;exact ⟨_,rfl,.int _ _⟩
theorem aHy {x:Option AV} {r:Option Int} (hr:aDZ x=some r) {o:Option Operand} {a:Act} (ho:(o=none∧x=none)∨∃ y ay,o=some y∧x=some ay∧Rep B S w (a.eval y) ay) :
  (o.map a.eval=none∧r=none)∨∃ k n,o.map a.eval=some (.int k n)∧r=some n:=by
 rcases ho with ⟨rfl,rfl⟩ | ⟨y,ay,rfl,rfl,hy⟩
 ·simp [aDZ] at hr;exact .inl ⟨rfl,hr.symm⟩
 ·unfold aDZ at hr
  split at hr
  ·simp_all
  ·rename_i k n e
   cases hr;cases e
   have e1:=hy.int_inv
   exact .inr ⟨k,n,by simp [e1],rfl⟩
  ·cases hr
theorem aBN {k:IntKind} {n:Int} {y:Nat} {c:BoundsCode} (h0:0≤n) (h1:n≤(y:Int)):(Instr.sliceBound (.int k n) y c).run G.P w=.ok n.toNat w:=by
 simp [Instr.sliceBound,asIntOf,h0,h1]
theorem aBy {isS:Bool} {len lim cap:Nat} (hlim:lim≤cap) {lo hi mx:Option AV} {ol oh om:Option Operand} {a:Act}
  (hlo:(ol=none∧lo=none)∨∃ y ay,ol=some y∧lo=some ay∧Rep B S w (a.eval y) ay) (hhi:(oh=none∧hi=none)∨∃ y ay,oh=some y∧hi=some ay∧Rep B S w (a.eval y) ay)
  (hmx:(om=none∧mx=none)∨∃ y ay,om=some y∧mx=some ay∧Rep B S w (a.eval y) ay) {x y:Nat} {z:Option Nat} (hr:aCZ len lim lo hi mx=some (x,y,z)) :
  x≤y∧y≤lim∧(∀ m,z=some m→y≤m∧m≤lim)∧(z=none→mx=none)∧(hi=none→y=len) ∧
   (Instr.sliceBounds isS len cap (ol.map a.eval) (oh.map a.eval) (om.map a.eval)).run G.P w=.ok (x,y,z.getD cap) w:=by
 unfold aCZ at hr
 split at hr
 ·rename_i lo' hi' mx' r1 r2 r3
  have b1:=aHy r1 hlo
  have b2:=aHy r2 hhi
  have b3:=aHy r3 hmx
  simp only at hr
  split at hr
  ·rename_i hc
   obtain ⟨c1,c2,c3⟩:=hc
   rcases b3 with ⟨e3,rfl⟩ | ⟨k3,n3,e3,rfl⟩
   ·simp only at hr
    cases hr
    have hmxn:mx=none:=by
     rcases hmx with ⟨_,h⟩ | ⟨y,ay,rfl,_,_⟩
     ·exact h
     ·simp at e3
    refine ⟨by omega,by omega,by simp,fun _=>hmxn,fun hh=>by subst hh;simp [aDZ] at r2;subst r2;simp,?_⟩
    rw [e3]
    rcases b2 with ⟨e2,rfl⟩ | ⟨k2,n2,e2,rfl⟩ <;> rcases b1 with ⟨e1,rfl⟩ | ⟨k1,n1,e1,rfl⟩ <;> rw [e1,e2] <;> simp at c1 c2 c3 ⊢
    ·simp [Instr.sliceBounds]
    ·have:=aBN (G:=G) (w:=w) (k:=k1) (y:=len) (c:=.sliceB) c1 (by omega)
     simp [Instr.sliceBounds,this]
    ·have:=aBN (G:=G) (w:=w) (k:=k2) (y:=cap) (c:=if isS then .sliceAcap else .sliceAlen) c2 (by omega)
     simp [Instr.sliceBounds,this]
    ·have t1:=aBN (G:=G) (w:=w) (k:=k2) (y:=cap) (c:=if isS then .sliceAcap else .sliceAlen) (n:=n2) (by omega) (by omega)
     have t2:=aBN (G:=G) (w:=w) (k:=k1) (y:=n2.toNat) (c:=.sliceB) c1 (by omega)
     simp [Instr.sliceBounds,t1,t2]
   ·simp only at hr
    split at hr
    ·rename_i hm
     obtain ⟨m1,m2,m3⟩:=hm
     cases hr
     refine ⟨by omega,by omega,fun m hm=>by cases hm;omega,by simp,fun hh=>by subst hh;simp [aDZ] at r2;subst r2;simp at m3,?_⟩
     rw [e3]
     rcases b2 with ⟨e2,rfl⟩ | ⟨k2,n2,e2,rfl⟩
     ·simp at m3
     ·have t0:=aBN (G:=G) (w:=w) (k:=k3) (y:=cap) (c:=if isS then .slice3Acap else .slice3Alen) (n:=n3) (by simp at m1 c2;omega) (by omega)
      have t1:=aBN (G:=G) (w:=w) (k:=k2) (y:=n3.toNat) (c:=.slice3B) (n:=n2) (by simp at c2;omega) (by simp at m1;omega)
      rcases b1 with ⟨e1,rfl⟩ | ⟨k1,n1,e1,rfl⟩ <;> rw [e1,e2] <;> simp at c1 c2 c3 m1 ⊢
      ·simp [Instr.sliceBounds,t0,t1]
      ·have t2:=aBN (G:=G) (w:=w) (k:=k1) (y:=n2.toNat) (c:=.slice3C) c1 (by omega)
       simp [Instr.sliceBounds,t0,t1,t2]
    ·cases hr
  ·cases hr
 ·cases hr
theorem aFt {α:Type} {l:List α} {a b e:Nat} {c:α} (h:((l.take b).drop a)[e]?=some c):l[a+e]?=some c∧a+e < b:=by
 rw [List.getElem?_drop,List.getElem?_take] at h
 split at h
 ·exact ⟨h,by assumption⟩
 ·cases h
theorem PRep.sub {I:Nat→Prop} {b base sz:Nat} {l:List (List AV)} {f:Nat→Nat→Value}
  (h3:∀ (e:Nat) (c:List AV),l[e]?=some c→c.length=sz)
  (h4:∀ (e:Nat) (c:List AV) (j:Nat) (x:AV),l[e]?=some c→c[j]?=some x→I b∧w.cell? ⟨b,base+e*sz+j,none⟩=some (f e j))
  (h5:∀ (e:Nat) (c:List AV) (j:Nat) (x:AV),l[e]?=some c→c[j]?=some x→PRep I w (f e j) x) {x y:Nat} (hxy:x≤y) (hy:y≤l.length) (ex:Bool) (cap':Nat) (hc:y - x≤cap') (he:ex=true→cap'=y - x) :
  PRep I w (.slice (some ⟨b,base+x*sz,none⟩) (y - x) cap') (.vsl ex ((l.take y).drop x)):=by
 have hlen:((l.take y).drop x).length=y - x:=by simp;omega
 have:=PRep.vsl (I:=I) (w:=w) b (base+x*sz) sz cap' ex ((l.take y).drop x) (fun e j=>f (x+e) j) (by omega) (fun h=>by rw [hlen];exact he h)
  (fun e c hc=>h3 _ _ (aFt hc).1)
  (fun e c j z hc hj=>by
   have:=h4 _ _ j z (aFt hc).1 hj
   refine ⟨this.1,?_⟩
   have e1:base+x*sz+e*sz+j=base+(x+e)*sz+j:=by rw [Nat.add_mul];omega
   rw [e1];exact this.2)
  (fun e c j z hc hj=>h5 _ _ j z (aFt hc).1 hj)
 rwa [hlen] at this
theorem aPY (hH:HeapRel G B S w h) {ty e sz:Nat} (hu:G.P.underlying ty=some (.slice e)) (hs:aAM G.P e=some sz) {vx:Value} {x z:AV} (hx:Rep B S w vx x) {lo hi mx:Option AV} {ol oh om:Option Operand} {a:Act}
  (hlo:(ol=none∧lo=none)∨∃ y ay,ol=some y∧lo=some ay∧Rep B S w (a.eval y) ay) (hhi:(oh=none∧hi=none)∨∃ y ay,oh=some y∧hi=some ay∧Rep B S w (a.eval y) ay)
  (hmx:(om=none∧mx=none)∨∃ y ay,om=some y∧mx=some ay∧Rep B S w (a.eval y) ay) (hr:aBs h sz x lo hi mx=some z) :
  Ok G B S w ((Instr.sliceAt ty vx (ol.map a.eval) (oh.map a.eval) (om.map a.eval)).run G.P w) h z:=by
 obtain ⟨inf,m1,m2,m3,m4⟩:=aAZ hs
 have run:∀ (A:Option Addr) (len cap l hh m:Nat),vx=.slice A len cap→(Instr.sliceBounds true len cap (ol.map a.eval) (oh.map a.eval) (om.map a.eval)).run G.P w=.ok (l,hh,m) w →
   (Instr.sliceAt ty vx (ol.map a.eval) (oh.map a.eval) (om.map a.eval)).run G.P w=.ok (.slice (if m=l then A else A.map (·.add (l*sz))) (hh - l) (m - l)) w:=by
  intro A len cap l hh m hv hb
  subst hv
  simp [Instr.sliceAt,Instr.slice,run_underlying hu,hb,m4]
 unfold aBs at hr
 split at hr
 ·have e1:=hx.nilS_inv
  cases hb:aCZ 0 0 lo hi mx with
  | none=>simp [hb] at hr
  | some q =>
   obtain ⟨l,hh,m⟩:=q
   simp [hb] at hr;subst hr
   obtain ⟨k1,k2,k3,k4,k5,k6⟩:=aBy (G:=G) (isS:=true) (cap:=0) (Nat.le_refl 0) hlo hhi hmx hb
   have hl:l=0:=by omega
   have hh0:hh=0:=by omega
   have hm:m.getD 0=0:=by
    cases m with
    | none=>rfl
    | some m=>have:=k3 m rfl;simp;omega
   refine Ok.same hH (run none 0 0 l hh _ e1 k6) ?_
   rw [hm,hl,hh0]
   simpa using Rep.pure (B:=B) (S:=S) _ _ (PRep.nilS (w:=w))
 ·rename_i ex l
  split at hr
  ·rename_i x y m hb
   split at hr
   ·rename_i hsz
    cases hr
    have:=hx.vsl_inv
    cases this with
    | vsl0 =>
     obtain ⟨k1,k2,k3,k4,k5,k6⟩:=aBy (G:=G) (isS:=true) (cap:=0) (by simp) hlo hhi hmx hb
     simp at k2
     have hx0:x=0:=by omega
     subst hx0 k2
     have hm:m.getD 0=0:=by
      cases m with
      | none=>rfl
      | some m=>have:=k3 m rfl;simp at this ⊢;omega
     refine Ok.same hH (run none 0 0 0 0 _ rfl k6) ?_
     rw [hm]
     simpa using Rep.pure (B:=B) (S:=S) _ _ (PRep.vsl0 (w:=w) _)
    | vslE A =>
     obtain ⟨k1,k2,k3,k4,k5,k6⟩:=aBy (G:=G) (isS:=true) (cap:=0) (by simp) hlo hhi hmx hb
     simp at k2
     have hx0:x=0:=by omega
     subst hx0 k2
     have hm:m.getD 0=0:=by
      cases m with
      | none=>rfl
      | some m=>have:=k3 m rfl;simp at this ⊢;omega
     refine Ok.same hH (run (some A) 0 0 0 0 _ rfl k6) ?_
     rw [hm]
     simpa using Rep.pure (B:=B) (S:=S) _ _ (PRep.vslE (w:=w) A _)
    | vsl b base sz' cap ex l f h1 h2 h3 h4 h5 =>
     obtain ⟨k1,k2,k3,k4,k5,k6⟩:=aBy (G:=G) (isS:=true) (cap:=cap) h1 hlo hhi hmx hb
     refine Ok.same hH (run _ _ _ x y _ rfl k6) ?_
     have hcap:y≤m.getD cap:=by
      cases m with
      | none=>simp;omega
      | some m=>have:=k3 m rfl;simp;omega
     have hexx:aGI ex l.length y m=true→m.getD cap - x=y - x:=by
      intro he
      cases m with
      | none =>
       simp only [aGI,Bool.and_eq_true,beq_iff_eq] at he
       have:=h2 he.1;simp;omega
      | some m=>simp [aGI] at he;simp [he]
     by_cases hne:x < y
     ·have hc0:l[x]?=some l[x]:=by simp
      have e0:((l.take y).drop x)=l[x]::(l.take y).drop (x+1):=by
       rw [List.drop_eq_getElem_cons (by simp;omega)];simp
      have hs0:sz'=sz:=by
       rw [e0] at hsz
       simp [aFT] at hsz
       rw [← h3 _ _ hc0];exact hsz
      subst hs0
      rw [if_neg (by omega)]
      have:=PRep.sub (w:=w) h3 h4 h5 (x:=x) (y:=y) (by omega) (by omega) _ (m.getD cap - x) (by omega) hexx
      simpa [aCb] using Rep.pure (B:=B) (S:=S) _ _ this
     ·have hxy:x=y:=by omega
      subst hxy
      have e0:(l.take x).drop x=[]:=by simp
      rw [e0] at *
      have key:∀ (q:Nat),Rep B S w (.slice (some ⟨b,q,none⟩) (x - x) (m.getD cap - x)) (.vsl (aGI ex l.length x m) []):=by
       intro q
       rw [Nat.sub_self]
       exact .pure _ _ (.vsl b q 0 _ _ [] (fun _ _=>.nilFunc) (by simp) (fun he=>by have:=hexx he;simp at this ⊢;omega) (fun _ _ h=>by simp at h) (fun _ _ _ _ h=>by simp at h) (fun _ _ _ _ h=>by simp at h))
      split
      ·exact key _
      ·simp only [Option.map_some,aCb];exact key _
   ·cases hr
  ·cases hr
 ·rename_i i v o n c
  split at hr
  ·rename_i sz' xx l hg
   split at hr
   ·rename_i hcond
    obtain ⟨hsz,hon⟩:=hcond
    obtain ⟨t,cs,rty,g1,g2,g3,g4,g5,g6,g7,⟨fz,hz,g8⟩,g9,g10⟩:=aBA hH hg
    obtain ⟨A,cap,hv,q1,q2,q3,q4,q5⟩:=hx.hsl_inv g1 g3
    have q6:A.spot=none:=(hv ▸ hx).hsl_spot g1 g3
    have hlim:aIa (l.length - o) c≤cap:=by
     cases c with
     | none=>have:=q4 rfl;simp [aIa];omega
     | some c=>have:=q3 c rfl;simp [aIa];omega
    have fin:∀ (x y:Nat) (m:Option Nat) (c':Option Nat),x≤y→y≤m.getD cap→m.getD cap≤cap→(∀ q,c'=some q→m.getD cap - x=q)→(c'=none→m.getD cap=cap∧c=none) →
      (Instr.sliceBounds true n cap (ol.map a.eval) (oh.map a.eval) (om.map a.eval)).run G.P w=.ok (x,y,m.getD cap) w →
      Ok G B S w ((Instr.sliceAt ty vx (ol.map a.eval) (oh.map a.eval) (om.map a.eval)).run G.P w) h (.hsl i v (o+x) (y - x) c'):=by
     intro x y m c' f1 f2 f3 f4 f5 f6
     refine Ok.same hH (run _ _ _ x y _ hv f6) ?_
     subst g3
     have e1:(if m.getD cap=x then some A else (some A).map (·.add (x*sz)))=some (if m.getD cap=x then A else A.add (x*sz)):=by split <;> rfl
     rw [e1]
     refine .hsl i (o+x) (y - x) (m.getD cap - x) c' _ t g1 (by omega) (by omega) (fun q hq=>f4 q hq) (fun hq => ?_) (fun hne => ?_) (by split;exact q6;unfold Addr.add;split;exact q6;rfl)
     ·have:=f5 hq;have:=q4 this.2;omega
     ·rw [if_neg (by omega),q5 (by omega),aCb]
      have e2:t.base+o*t.sz+x*sz=t.base+(o+x)*t.sz:=by rw [g4,hsz,Nat.add_mul];omega
      rw [e2]
    split at hr
    ·rename_i x y hb
     cases hr
     obtain ⟨k1,k2,k3,k4,k5,k6⟩:=aBy (G:=G) (isS:=true) (cap:=cap) hlim hlo hhi hmx hb
     refine fin x y none _ k1 (by simp;omega) (by simp) (fun q hq => ?_) (fun hq => ?_) k6
     ·cases c with
      | none=>simp at hq
      | some c=>simp at hq;have:=q3 c rfl;simp;omega
     ·cases c with
      | none=>simp
      | some c=>simp at hq
    ·rename_i x y m hb
     cases hr
     obtain ⟨k1,k2,k3,k4,k5,k6⟩:=aBy (G:=G) (isS:=true) (cap:=cap) hlim hlo hhi hmx hb
     have:=k3 m rfl
     exact fin x y (some m) _ k1 (by simp;omega) (by simp;omega) (fun q hq=>by simpa using hq) (fun hq=>by simp at hq) k6
    ·cases hr
   ·cases hr
  ·cases hr
 ·cases hr
end
end Go.Proofs.Yteenffomgdfocaa.Ai
