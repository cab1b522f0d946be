/- The interpreter without fuel: more fuel turns no answer; the limit, and its laws. -/
import Derived.Test.YtgeedikghjcebaamCAi22
namespace Go.Proofs.Ytgeedikghjcebaa.Ai
open Go Go.RowKit
set_option linter.unusedVariables false
set_option linter.unusedSimpArgs false
def aHN (lim:aA4) (call:Nat→aA4):Prop:=∀ f a h r,lim f a h=some r→∃ k,∀ k',k≤k'→call k' f a h=some r
section
variable {lim : aA4} {call : Nat → aA4}
theorem aL2 (hA:aHN lim call) {o:AOper} {s s':St} (hr:aAL lim o s=some s'):∃ k,∀ k',k≤k'→aAL (call k') o s=some s':=by
 unfold aAL at *
 split at hr
 ·cases hr
 ·rename_i hw;exact ⟨0,fun k' _=>by simpa [hw] using hr⟩
 ·rename_i hw
  split at hr
  ·cases hr
  ·rename_i x h ha;exact ⟨0,fun k' _=>by simpa [hw,ha] using hr⟩
  ·rename_i f args ha
   split at hr
   ·rename_i x h hc
    obtain ⟨k,hk⟩:=hA _ _ _ _ hc
    exact ⟨k,fun k' h'=>by simpa [hw,ha,hk k' h'] using hr⟩
   ·cases hr
theorem aK6 (hA:aHN lim call):∀ {l:List AOper} {s s':St},aB9 lim l s=some s'→∃ k,∀ k',k≤k'→aB9 (call k') l s=some s'
 | [],s,s',hr=>⟨0,fun _ _=>hr⟩
 | o::l,s,s',hr=>by
  rw [aDL] at hr
  cases e:aAL lim o s with
  | none=>simp [e] at hr
  | some u =>
   simp only [e,Option.bind_some] at hr
   obtain ⟨k1,h1⟩:=aL2 hA e
   obtain ⟨k2,h2⟩:=aK6 hA hr
   exact ⟨max k1 k2,fun k' h'=>by rw [aDL,h1 k' (by omega)];exact h2 k' (by omega)⟩
theorem aIQ (hA:aHN lim call) {l:List AOper} (ws:List (List Nat)) (sw:Nat→Nat→Bool) (m:Nat):∀ (n:Nat) (listed:List Bool) (s s':St),aAY (fun i=>aAL lim (l.getD i default)) ws sw m n listed s=some s' →
  ∃ k,∀ k',k≤k'→aAY (fun i=>aAL (call k') (l.getD i default)) ws sw m n listed s=some s'
 | 0,listed,s,s',h=>⟨0,fun k' _=>by simpa only [aAY] using h⟩
 | n+1,listed,s,s',h=>by
  have one:∀ i s',(aAL lim (l.getD i default) s).bind (aAY (fun i=>aAL lim (l.getD i default)) ws sw m n (listed.set i true))=some s' →
    ∃ k,∀ k',k≤k'→(aAL (call k') (l.getD i default) s).bind (aAY (fun i=>aAL (call k') (l.getD i default)) ws sw m n (listed.set i true))=some s':=fun i s' h=>by
   cases e:aAL lim (l.getD i default) s with
   | none=>rw [e] at h;cases h
   | some u =>
    simp only [e,Option.bind_some] at h
    obtain ⟨k1,h1⟩:=aL2 hA e
    obtain ⟨k2,h2⟩:=aIQ hA ws sw m n _ u s' h
    exact ⟨max k1 k2,fun k' hk=>by rw [h1 k' (by omega),Option.bind_some];exact h2 k' (by omega)⟩
  simp only [aAY] at h ⊢
  split at h
  ·rename_i i hi
   obtain ⟨k,hk⟩:=one i s' h
   exact ⟨k,fun k' h'=>hk k' h'⟩
  ·rename_i hi
   split at h
   ·rename_i hr
    exact ⟨0,fun k' _=>h⟩
   ·rename_i i rest hr
    split at h
    ·cases h
    ·rename_i s1 h1
     split at h
     ·rename_i hall
      cases h
      obtain ⟨k1,q1⟩:=one i s' h1
      have all:∀ rest:List Nat,(rest.all fun j=>aDv m ((aAL lim (l.getD j default) s).bind (aAY (fun i=>aAL lim (l.getD i default)) ws sw m n (listed.set j true))) (some s'))=true →
        ∃ k,∀ k',k≤k'→(rest.all fun j=>aDv m ((aAL (call k') (l.getD j default) s).bind (aAY (fun i=>aAL (call k') (l.getD i default)) ws sw m n (listed.set j true))) (some s'))=true:=by
       intro rest
       induction rest with
       | nil=>intro _;exact ⟨0,fun _ _=>rfl⟩
       | cons j rest ih =>
        intro h
        simp only [List.all_cons,Bool.and_eq_true] at h
        obtain ⟨s2,e2,_⟩:=aN4 h.1
        obtain ⟨k2,q2⟩:=one j s2 e2
        rw [e2] at h
        obtain ⟨k3,q3⟩:=ih h.2
        exact ⟨max k2 k3,fun k' h'=>by
         simp only [List.all_cons,Bool.and_eq_true,q2 k' (by omega)]
         exact ⟨h.1,q3 k' (by omega)⟩⟩
      obtain ⟨k2,q2⟩:=all rest hall
      exact ⟨max k1 k2,fun k' h'=>by simp only [q1 k' (by omega),q2 k' (by omega),if_true]⟩
     ·cases h
theorem aFZ (hA:aHN lim call) (n:Nat) (c:ACode):∀ {s:St} {r:Out × St},aA9 lim n c s=some r→∃ k,∀ k' n',k≤k'→n≤n'→aA9 (call k') n' c s=some r:=by
 induction c with
 | skip=>intro s r hr;exact ⟨0,fun _ _ _ _=>by simpa [aA9] using hr⟩
 | exit id=>intro s r hr;exact ⟨0,fun _ _ _ _=>by simpa [aA9] using hr⟩
 | ret=>intro s r hr;exact ⟨0,fun _ _ _ _=>by simpa [aA9] using hr⟩
 | kill m=>intro s r hr;exact ⟨0,fun _ _ _ _=>by simpa [aA9] using hr⟩
 | draw l ws sw =>
  intro s r hr
  simp only [aA9] at hr
  generalize he:aAY (fun i=>aAL lim (l.getD i default)) ws (aFj sw) s.h.length ws.length (List.replicate ws.length false) s=e at hr
  cases e with
  | none=>simp at hr
  | some u =>
   obtain ⟨k,hk⟩:=aIQ hA ws (aFj sw) _ _ _ _ _ he
   exact ⟨k,fun k' n' h1 h2=>by simp only [aA9,hk k' h1];simpa using hr⟩
 | ops l =>
  intro s r hr
  simp only [aA9] at hr
  cases e:aB9 lim l s with
  | none=>simp [e] at hr
  | some u =>
   obtain ⟨k,hk⟩:=aK6 hA e
   exact ⟨k,fun k' n' h1 h2=>by simp only [aA9,hk k' h1];simpa [e] using hr⟩
 | seq a b iha ihb =>
  intro s r hr
  simp only [aA9] at hr
  split at hr
  ·rename_i s1 e
   obtain ⟨k1,h1⟩:=iha e
   obtain ⟨k2,h2⟩:=ihb hr
   exact ⟨max k1 k2,fun k' n' h3 h4=>by simp only [aA9,h1 k' n' (by omega) h4];exact h2 k' n' (by omega) h4⟩
  ·rename_i q hne
   obtain ⟨k1,h1⟩:=iha hr
   refine ⟨k1,fun k' n' h3 h4 => ?_⟩
   simp only [aA9,h1 k' n' h3 h4]
   obtain ⟨o,s1⟩:=r
   cases o with
   | normal=>exact (hne s1 hr).elim
   | exit j=>rfl
   | ret=>rfl
 | cond c a b iha ihb =>
  intro s r hr
  simp only [aA9] at hr
  split at hr
  ·rename_i e
   obtain ⟨k1,h1⟩:=iha hr
   exact ⟨k1,fun k' n' h3 h4=>by simp only [aA9,e];exact h1 k' n' h3 h4⟩
  ·rename_i e
   obtain ⟨k1,h1⟩:=ihb hr
   exact ⟨k1,fun k' n' h3 h4=>by simp only [aA9,e];exact h1 k' n' h3 h4⟩
  ·cases hr
 | block id c ih =>
  intro s r hr
  simp only [aA9] at hr
  split at hr
  ·rename_i j s1 e
   obtain ⟨k1,h1⟩:=ih e
   exact ⟨k1,fun k' n' h3 h4=>by simp only [aA9,h1 k' n' h3 h4];exact hr⟩
  ·rename_i q hne
   obtain ⟨k1,h1⟩:=ih hr
   refine ⟨k1,fun k' n' h3 h4 => ?_⟩
   simp only [aA9,h1 k' n' h3 h4]
   obtain ⟨o,s1⟩:=r
   cases o with
   | exit j=>exact (hne j s1 hr).elim
   | normal=>rfl
   | ret=>rfl
 | loop c ih =>
  intro s r hr
  simp only [aA9] at hr ⊢
  have key:∀ (m:Nat) (s:St),aAw (aA9 lim n c) m s=some r→∃ k,∀ k' n' m',k≤k'→n≤n'→m≤m'→aAw (aA9 (call k') n' c) m' s=some r:=by
   intro m
   induction m with
   | zero=>intro s h;simp [aAw] at h
   | succ m ihm =>
    intro s h
    simp only [aAw] at h
    split at h
    ·rename_i s1 e
     obtain ⟨k1,h1⟩:=ih e
     obtain ⟨k2,h2⟩:=ihm s1 h
     refine ⟨max k1 k2,fun k' n' m' h3 h4 h5 => ?_⟩
     obtain ⟨m',rfl⟩:∃ q,m'=q+1:=⟨m' - 1,by omega⟩
     simp only [aAw,h1 k' n' (by omega) h4]
     exact h2 k' n' m' (by omega) h4 (by omega)
    ·rename_i q hne
     obtain ⟨k1,h1⟩:=ih h
     refine ⟨k1,fun k' n' m' h3 h4 h5 => ?_⟩
     obtain ⟨m',rfl⟩:∃ q,m'=q+1:=⟨m' - 1,by omega⟩
     simp only [aAw,h1 k' n' h3 h4]
     obtain ⟨o,s1⟩:=r
     cases o with
     | normal=>exact (hne s1 h).elim
     | exit j=>rfl
     | ret=>rfl
  obtain ⟨k,hk⟩:=key n s hr
  exact ⟨k,fun k' n' h1 h2=>hk k' n' n' h1 h2 h2⟩
 | range f ps asg body iha ihb =>
  intro s r hr
  simp only [aA9] at hr
  split at hr
  ·rename_i g first caps e
   split at hr
   ·rename_i x h hc
    obtain ⟨k,hk⟩:=hA _ _ _ _ hc
    exact ⟨k,fun k' n' h1 h2=>by simp only [aA9,e,hk k' h1];exact hr⟩
   ·cases hr
  ·cases hr
theorem aIe (hA:aHN lim call) {n:Nat} {fn:AFn} {args:List AV} {h:aA0} {r:AV × aA0} (hr:aB8 lim n fn args h=some r):∃ k,∀ k' n',k≤k'→n≤n'→aB8 (call k') n' fn args h=some r:=by
 unfold aB8 at hr
 cases e:aA9 lim n fn.body ⟨args++List.replicate (fn.ntmps - args.length) AV.un,h⟩ with
 | none=>simp [e] at hr
 | some q =>
  obtain ⟨k,hk⟩:=aFZ hA n _ e
  refine ⟨k,fun k' n' h1 h2 => ?_⟩
  unfold aB8
  rw [hk k' n' h1 h2]
  rw [e] at hr
  exact hr
theorem aN9 (hA:aHN lim call) {C:Cfg} {n g:Nat} {l:List AV} {v:AV} (hr:aDh C lim n g l=some v):∃ k,∀ k' n',k≤k'→n≤n'→aDh C (call k') n' g l=some v∧aDo C (call k') n' g l=aDo C lim n g l:=by
 unfold aDh aDo at *
 cases hx:C.ix g with
 | some fx=>exact ⟨0,fun _ _ _ _=>⟨by simpa [hx] using hr,rfl⟩⟩
 | none =>
  simp only [hx] at hr ⊢
  cases hP:C.P g with
  | none=>simp [hP] at hr
  | some fn =>
   simp only [hP] at hr ⊢
   cases e:aB8 lim n fn l [] with
   | none=>simp [e] at hr
   | some q =>
    obtain ⟨k,hk⟩:=aIe hA e
    exact ⟨k,fun k' n' h1 h2=>by simp only [hk k' n' h1 h2];exact ⟨by simpa [e] using hr,trivial⟩⟩
theorem aIN (hA:aHN lim call) {C:Cfg} {n g:Nat} {args:List AV} {h:aA0} {r:AV × aA0} (hr:aBW C lim n g args h=some r):∃ k,∀ k' n',k≤k'→n≤n'→aBW C (call k') n' g args h=some r:=by
 unfold aBW at *
 cases hl:aAq (freeze h 1000) args with
 | none=>simp [hl] at hr
 | some l =>
  simp only [hl] at hr ⊢
  cases e:aDh C lim n g (l.map (·.1)) with
  | none=>simp only [e] at hr;cases hr
  | some v =>
   obtain ⟨k,hk⟩:=aN9 hA e
   exact ⟨k,fun k' n' h1 h2=>by
    obtain ⟨q1,q2⟩:=hk k' n' h1 h2
    simp only [q1,q2];simpa only [e] using hr⟩
theorem aLX (hA:aHN lim call) {n i:Nat} {args:List AV} {h:aA0} {r:AV × aA0} (hr:aE1 lim n i args h=some r):∃ k,∀ k' n',k≤k'→n≤n'→aE1 (call k') n' i args h=some r:=by
 unfold aE1 at hr
 split at hr
 ·rename_i st pend tl ps asg body e1
  split at hr
  ·rename_i hl
   split at hr
   ·rename_i s e2
    obtain ⟨k1,h1⟩:=aFZ hA n _ e2
    split at hr
    ·rename_i pend1 tl1 ps1 asg1 body1 e3
     split at hr
     ·rename_i out s2 e4
      obtain ⟨k2,h2⟩:=aFZ hA n _ e4
      refine ⟨max k1 k2,fun k' n' h3 h4 => ?_⟩
      unfold aE1
      simp only [e1,hl,if_true,h1 k' n' (by omega) h4,e3,h2 k' n' (by omega) h4]
      exact hr
     ·cases hr
    ·cases hr
   ·cases hr
  ·cases hr
 ·cases hr
end
section
variable {C : Cfg}
theorem aKc:∀ (k:Nat) (f:Fn) (a:List AV) (h:aA0) (r:AV × aA0),aBN C k f a h=some r→aBN C (k+1) f a h=some r
 | 0,f,a,h,r,hr=>by simp [aBN] at hr
 | k+1,f,a,h,r,hr=>by
  have hA:aHN (aBN C k) (fun _=>aBN C (k+1)):=fun f a h r hr=>⟨0,fun _ _=>aKc k f a h r hr⟩
  simp only [aBN] at hr ⊢
  split at hr
  ·rename_i g
   split at hr
   ·rename_i hp
    rw [if_pos hp]
    obtain ⟨_,hk⟩:=aIN hA hr
    exact hk _ (k+1) (Nat.le_refl _) (by omega)
   ·rename_i hp
    rw [if_neg hp]
    split at hr
    ·rename_i fn e
     obtain ⟨_,hk⟩:=aIe hA hr
     exact hk _ (k+1) (Nat.le_refl _) (by omega)
    ·cases hr
  ·obtain ⟨_,hk⟩:=aLX hA hr
   exact hk _ (k+1) (Nat.le_refl _) (by omega)
  ·cases hr
theorem aIx {k k':Nat} (hk:k≤k') {f:Fn} {a:List AV} {h:aA0} {r:AV × aA0} (hr:aBN C k f a h=some r):aBN C k' f a h=some r:=by
 induction hk with
 | refl=>exact hr
 | step _ ih=>exact aKc _ f a h r ih
open Classical in
noncomputable def lim (C:Cfg):aA4:=fun f a h=>if hx:∃ r,∃ k,aBN C k f a h=some r then some (Classical.choose hx) else none
theorem aGP {f:Fn} {a:List AV} {h:aA0} {r:AV × aA0}:lim C f a h=some r↔∃ k,aBN C k f a h=some r:=by
 unfold lim
 constructor
 ·intro hr
  split at hr
  ·rename_i hx
   cases hr
   exact Classical.choose_spec hx
  ·cases hr
 ·rintro ⟨k,hk⟩
  have hx:∃ r,∃ k,aBN C k f a h=some r:=⟨r,k,hk⟩
  rw [dif_pos hx]
  obtain ⟨k',hk'⟩:=Classical.choose_spec hx
  have h1:=aIx (C:=C) (Nat.le_max_left k k') hk
  have h2:=aIx (C:=C) (Nat.le_max_right k k') hk'
  rw [h1] at h2
  exact h2.symm
theorem aNL:aHN (lim C) (aBN C):=fun f a h r hr=>by
 obtain ⟨k,hk⟩:=aGP.1 hr
 exact ⟨k,fun k' h'=>aIx h' hk⟩
theorem aB3 {g:Nat} (hp:C.pu g=false) {fn:AFn} (hP:C.P g=some fn) (n:Nat) {a:List AV} {h:aA0} {r:AV × aA0} (hr:aB8 (lim C) n fn a h=some r):lim C (.func g) a h=some r:=by
 obtain ⟨k,hk⟩:=aIe aNL hr
 refine aGP.2 ⟨max k n+1,?_⟩
 simp only [aBN,hp,Bool.false_eq_true,if_false,hP]
 exact hk _ _ (by omega) (by omega)
theorem aKl {g:Nat} (hp:C.pu g=true) (n:Nat) {a:List AV} {h:aA0} {r:AV × aA0} (hr:aBW C (lim C) n g a h=some r):lim C (.func g) a h=some r:=by
 obtain ⟨k,hk⟩:=aIN aNL hr
 refine aGP.2 ⟨max k n+1,?_⟩
 simp only [aBN,hp,if_true]
 exact hk _ _ (by omega) (by omega)
end
theorem aMz {G:Pg} (hmx:G.P.follows .mixedOrders=true) {g:Nat} {args:List AV} {x y:AV} {c:Bool} {h':aA0} (hr:lim G.cfg (.func g) args []=some (x,h')) (hf:freeze h' 1000 x=some (y,c)) {w:World} {vs:Array Value}
  (hv:aHy (fun _=>True) w vs args):Calls G.P g vs w fun e w'=>∃ v,e=.returned v∧Below w.heap.size w w'∧PRep (fun _=>True) w' v y:=by
 obtain ⟨k,hk⟩:=aGP.1 hr
 exact aMq hmx hk hf hv
#print axioms aMz
end Go.Proofs.Ytgeedikghjcebaa.Ai
