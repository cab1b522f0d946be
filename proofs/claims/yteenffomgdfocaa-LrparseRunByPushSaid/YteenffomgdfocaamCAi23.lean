/- The interpreter without fuel: more fuel turns no answer; the limit, and its laws. -/
import Derived.Test.YteenffomgdfocaamCAi22
namespace Go.Proofs.Yteenffomgdfocaa.Ai
open Go Go.RowKit
set_option linter.unusedVariables false
set_option linter.unusedSimpArgs false
def aFy (lim:aAc) (call:Nat→aAc):Prop:=∀ f a h r,lim f a h=some r→∃ k,∀ k',k≤k'→call k' f a h=some r
section
variable {lim : aAc} {call : Nat → aAc}
theorem aJ9 (hA:aFy lim call) {o:AOper} {s s':St} (hr:aAw lim o s=some s'):∃ k,∀ k',k≤k'→aAw (call k') o s=some s':=by
 unfold aAw at *
 split at hr
 ·cases hr
 ·rename_i hw;exact ⟨0,fun k' _=>by simpa [hw] using hr⟩
 ·rename_i hw
  split at hr
  ·cases hr
  ·rename_i x h ha;exact ⟨0,fun k' _=>by simpa [hw,ha] using hr⟩
  ·rename_i f args ha
   split at hr
   ·rename_i x h hc
    obtain ⟨k,hk⟩:=hA _ _ _ _ hc
    exact ⟨k,fun k' h'=>by simpa [hw,ha,hk k' h'] using hr⟩
   ·cases hr
theorem aIk (hA:aFy lim call):∀ {l:List AOper} {s s':St},aAJ lim l s=some s'→∃ k,∀ k',k≤k'→aAJ (call k') l s=some s'
 | [],s,s',hr=>⟨0,fun _ _=>hr⟩
 | o::l,s,s',hr=>by
  rw [aDs] at hr
  cases e:aAw lim o s with
  | none=>simp [e] at hr
  | some u =>
   simp only [e,Option.bind_some] at hr
   obtain ⟨k1,h1⟩:=aJ9 hA e
   obtain ⟨k2,h2⟩:=aIk hA hr
   exact ⟨max k1 k2,fun k' h'=>by rw [aDs,h1 k' (by omega)];exact h2 k' (by omega)⟩
theorem aHh (hA:aFy lim call) {l:List AOper} (ws:List (List Nat)) (sw:Nat→Nat→Bool) (m:Nat):∀ (n:Nat) (listed:List Bool) (s s':St),aAK (fun i=>aAw lim (l.getD i default)) ws sw m n listed s=some s' →
  ∃ k,∀ k',k≤k'→aAK (fun i=>aAw (call k') (l.getD i default)) ws sw m n listed s=some s'
 | 0,listed,s,s',h=>⟨0,fun k' _=>by simpa only [aAK] using h⟩
 | n+1,listed,s,s',h=>by
  have one:∀ i s',(aAw lim (l.getD i default) s).bind (aAK (fun i=>aAw lim (l.getD i default)) ws sw m n (listed.set i true))=some s' →
    ∃ k,∀ k',k≤k'→(aAw (call k') (l.getD i default) s).bind (aAK (fun i=>aAw (call k') (l.getD i default)) ws sw m n (listed.set i true))=some s':=fun i s' h=>by
   cases e:aAw lim (l.getD i default) s with
   | none=>rw [e] at h;cases h
   | some u =>
    simp only [e,Option.bind_some] at h
    obtain ⟨k1,h1⟩:=aJ9 hA e
    obtain ⟨k2,h2⟩:=aHh hA ws sw m n _ u s' h
    exact ⟨max k1 k2,fun k' hk=>by rw [h1 k' (by omega),Option.bind_some];exact h2 k' (by omega)⟩
  simp only [aAK] at h ⊢
  split at h
  ·rename_i i hi
   obtain ⟨k,hk⟩:=one i s' h
   exact ⟨k,fun k' h'=>hk k' h'⟩
  ·rename_i hi
   split at h
   ·rename_i hr
    exact ⟨0,fun k' _=>h⟩
   ·rename_i i rest hr
    split at h
    ·cases h
    ·rename_i s1 h1
     split at h
     ·rename_i hall
      cases h
      obtain ⟨k1,q1⟩:=one i s' h1
      have all:∀ rest:List Nat,(rest.all fun j=>aFB m ((aAw lim (l.getD j default) s).bind (aAK (fun i=>aAw lim (l.getD i default)) ws sw m n (listed.set j true))) (some s'))=true →
        ∃ k,∀ k',k≤k'→(rest.all fun j=>aFB m ((aAw (call k') (l.getD j default) s).bind (aAK (fun i=>aAw (call k') (l.getD i default)) ws sw m n (listed.set j true))) (some s'))=true:=by
       intro rest
       induction rest with
       | nil=>intro _;exact ⟨0,fun _ _=>rfl⟩
       | cons j rest ih =>
        intro h
        simp only [List.all_cons,Bool.and_eq_true] at h
        obtain ⟨s2,e2,_⟩:=aLJ h.1
        obtain ⟨k2,q2⟩:=one j s2 e2
        rw [e2] at h
        obtain ⟨k3,q3⟩:=ih h.2
        exact ⟨max k2 k3,fun k' h'=>by
         simp only [List.all_cons,Bool.and_eq_true,q2 k' (by omega)]
         exact ⟨h.1,q3 k' (by omega)⟩⟩
      obtain ⟨k2,q2⟩:=all rest hall
      exact ⟨max k1 k2,fun k' h'=>by simp only [q1 k' (by omega),q2 k' (by omega),if_true]⟩
     ·cases h
theorem aFs (hA:aFy lim call) (n:Nat) (c:ACode):∀ {s:St} {r:Out × St},aA1 lim n c s=some r→∃ k,∀ k' n',k≤k'→n≤n'→aA1 (call k') n' c s=some r:=by
 induction c with
 | skip=>intro s r hr;exact ⟨0,fun _ _ _ _=>by simpa [aA1] using hr⟩
 | exit id=>intro s r hr;exact ⟨0,fun _ _ _ _=>by simpa [aA1] using hr⟩
 | ret=>intro s r hr;exact ⟨0,fun _ _ _ _=>by simpa [aA1] using hr⟩
 | kill m=>intro s r hr;exact ⟨0,fun _ _ _ _=>by simpa [aA1] using hr⟩
 | draw l ws sw =>
  intro s r hr
  simp only [aA1] at hr
  generalize he:aAK (fun i=>aAw lim (l.getD i default)) ws (aEK sw) s.h.length ws.length (List.replicate ws.length false) s=e at hr
  cases e with
  | none=>simp at hr
  | some u =>
   obtain ⟨k,hk⟩:=aHh hA ws (aEK sw) _ _ _ _ _ he
   exact ⟨k,fun k' n' h1 h2=>by simp only [aA1,hk k' h1];simpa using hr⟩
 | ops l =>
  intro s r hr
  simp only [aA1] at hr
  cases e:aAJ lim l s with
  | none=>simp [e] at hr
  | some u =>
   obtain ⟨k,hk⟩:=aIk hA e
   exact ⟨k,fun k' n' h1 h2=>by simp only [aA1,hk k' h1];simpa [e] using hr⟩
 | seq a b iha ihb =>
  intro s r hr
  simp only [aA1] at hr
  split at hr
  ·rename_i s1 e
   obtain ⟨k1,h1⟩:=iha e
   obtain ⟨k2,h2⟩:=ihb hr
   exact ⟨max k1 k2,fun k' n' h3 h4=>by simp only [aA1,h1 k' n' (by omega) h4];exact h2 k' n' (by omega) h4⟩
  ·rename_i q hne
   obtain ⟨k1,h1⟩:=iha hr
   refine ⟨k1,fun k' n' h3 h4 => ?_⟩
   simp only [aA1,h1 k' n' h3 h4]
   obtain ⟨o,s1⟩:=r
   cases o with
   | normal=>exact (hne s1 hr).elim
   | exit j=>rfl
   | ret=>rfl
 | cond c a b iha ihb =>
  intro s r hr
  simp only [aA1] at hr
  split at hr
  ·rename_i e
   obtain ⟨k1,h1⟩:=iha hr
   exact ⟨k1,fun k' n' h3 h4=>by simp only [aA1,e];exact h1 k' n' h3 h4⟩
  ·rename_i e
   obtain ⟨k1,h1⟩:=ihb hr
   exact ⟨k1,fun k' n' h3 h4=>by simp only [aA1,e];exact h1 k' n' h3 h4⟩
  ·cases hr
 | block id c ih =>
  intro s r hr
  simp only [aA1] at hr
  split at hr
  ·rename_i j s1 e
   obtain ⟨k1,h1⟩:=ih e
   exact ⟨k1,fun k' n' h3 h4=>by simp only [aA1,h1 k' n' h3 h4];exact hr⟩
  ·rename_i q hne
   obtain ⟨k1,h1⟩:=ih hr
   refine ⟨k1,fun k' n' h3 h4 => ?_⟩
   simp only [aA1,h1 k' n' h3 h4]
   obtain ⟨o,s1⟩:=r
   cases o with
   | exit j=>exact (hne j s1 hr).elim
   | normal=>rfl
   | ret=>rfl
 | loop c ih =>
  intro s r hr
  simp only [aA1] at hr ⊢
  have key:∀ (m:Nat) (s:St),aAj (aA1 lim n c) m s=some r→∃ k,∀ k' n' m',k≤k'→n≤n'→m≤m'→aAj (aA1 (call k') n' c) m' s=some r:=by
   intro m
   induction m with
   | zero=>intro s h;simp [aAj] at h
   | succ m ihm =>
    intro s h
    simp only [aAj] at h
    split at h
    ·rename_i s1 e
     obtain ⟨k1,h1⟩:=ih e
     obtain ⟨k2,h2⟩:=ihm s1 h
     refine ⟨max k1 k2,fun k' n' m' h3 h4 h5 => ?_⟩
     obtain ⟨m',rfl⟩:∃ q,m'=q+1:=⟨m' - 1,by omega⟩
     simp only [aAj,h1 k' n' (by omega) h4]
     exact h2 k' n' m' (by omega) h4 (by omega)
    ·rename_i q hne
     obtain ⟨k1,h1⟩:=ih h
     refine ⟨k1,fun k' n' m' h3 h4 h5 => ?_⟩
     obtain ⟨m',rfl⟩:∃ q,m'=q+1:=⟨m' - 1,by omega⟩
     simp only [aAj,h1 k' n' h3 h4]
     obtain ⟨o,s1⟩:=r
     cases o with
     | normal=>exact (hne s1 h).elim
     | exit j=>rfl
     | ret=>rfl
  obtain ⟨k,hk⟩:=key n s hr
  exact ⟨k,fun k' n' h1 h2=>hk k' n' n' h1 h2 h2⟩
 | range f ps asg body iha ihb =>
  intro s r hr
  simp only [aA1] at hr
  split at hr
  ·rename_i g first caps e
   split at hr
   ·rename_i x h hc
    obtain ⟨k,hk⟩:=hA _ _ _ _ hc
    exact ⟨k,fun k' n' h1 h2=>by simp only [aA1,e,hk k' h1];exact hr⟩
   ·cases hr
  ·cases hr
theorem aFC (hA:aFy lim call) {n:Nat} {fn:AFn} {args:List AV} {h:aA0} {r:AV × aA0} (hr:aAS lim n fn args h=some r):∃ k,∀ k' n',k≤k'→n≤n'→aAS (call k') n' fn args h=some r:=by
 unfold aAS at hr
 cases e:aA1 lim n fn.body ⟨args++List.replicate (fn.ntmps - args.length) AV.un,h⟩ with
 | none=>simp [e] at hr
 | some q =>
  obtain ⟨k,hk⟩:=aFs hA n _ e
  refine ⟨k,fun k' n' h1 h2 => ?_⟩
  unfold aAS
  rw [hk k' n' h1 h2]
  rw [e] at hr
  exact hr
theorem aHw (hA:aFy lim call) {C:Cfg} {n g:Nat} {l:List AV} {v:AV} (hr:aAa C lim n g l=some v):∃ k,∀ k' n',k≤k'→n≤n'→aAa C (call k') n' g l=some v∧aDA C (call k') n' g l=aDA C lim n g l:=by
 unfold aAa aDA at *
 cases hx:C.ix g with
 | some fx=>exact ⟨0,fun _ _ _ _=>⟨by simpa [hx] using hr,rfl⟩⟩
 | none =>
  simp only [hx] at hr ⊢
  cases hP:C.P g with
  | none=>simp [hP] at hr
  | some fn =>
   simp only [hP] at hr ⊢
   cases e:aAS lim n fn l [] with
   | none=>simp [e] at hr
   | some q =>
    obtain ⟨k,hk⟩:=aFC hA e
    exact ⟨k,fun k' n' h1 h2=>by simp only [hk k' n' h1 h2];exact ⟨by simpa [e] using hr,trivial⟩⟩
theorem aFo (hA:aFy lim call) {C:Cfg} {n g:Nat} {args:List AV} {h:aA0} {r:AV × aA0} (hr:aB5 C lim n g args h=some r):∃ k,∀ k' n',k≤k'→n≤n'→aB5 C (call k') n' g args h=some r:=by
 unfold aB5 at *
 cases hl:aAk (freeze h 1000) args with
 | none=>simp [hl] at hr
 | some l =>
  simp only [hl] at hr ⊢
  cases e:aAa C lim n g (l.map (·.1)) with
  | none=>simp only [e] at hr;cases hr
  | some v =>
   obtain ⟨k,hk⟩:=aHw hA e
   exact ⟨k,fun k' n' h1 h2=>by
    obtain ⟨q1,q2⟩:=hk k' n' h1 h2
    simp only [q1,q2];simpa only [e] using hr⟩
theorem aEJ (hA:aFy lim call) {n i:Nat} {args:List AV} {h:aA0} {r:AV × aA0} (hr:aCz lim n i args h=some r):∃ k,∀ k' n',k≤k'→n≤n'→aCz (call k') n' i args h=some r:=by
 unfold aCz at hr
 split at hr
 ·rename_i st pend tl ps asg body e1
  split at hr
  ·rename_i hl
   split at hr
   ·rename_i s e2
    obtain ⟨k1,h1⟩:=aFs hA n _ e2
    split at hr
    ·rename_i pend1 tl1 ps1 asg1 body1 e3
     split at hr
     ·rename_i out s2 e4
      obtain ⟨k2,h2⟩:=aFs hA n _ e4
      refine ⟨max k1 k2,fun k' n' h3 h4 => ?_⟩
      unfold aCz
      simp only [e1,hl,if_true,h1 k' n' (by omega) h4,e3,h2 k' n' (by omega) h4]
      exact hr
     ·cases hr
    ·cases hr
   ·cases hr
  ·cases hr
 ·cases hr
end
section
variable {C : Cfg}
theorem aIp:∀ (k:Nat) (f:Fn) (a:List AV) (h:aA0) (r:AV × aA0),aBe C k f a h=some r→aBe C (k+1) f a h=some r
 | 0,f,a,h,r,hr=>by simp [aBe] at hr
 | k+1,f,a,h,r,hr=>by
  have hA:aFy (aBe C k) (fun _=>aBe C (k+1)):=fun f a h r hr=>⟨0,fun _ _=>aIp k f a h r hr⟩
  simp only [aBe] at hr ⊢
  split at hr
  ·rename_i g
   split at hr
   ·rename_i hp
    rw [if_pos hp]
    obtain ⟨_,hk⟩:=aFo hA hr
    exact hk _ (k+1) (Nat.le_refl _) (by omega)
   ·rename_i hp
    rw [if_neg hp]
    split at hr
    ·rename_i fn e
     obtain ⟨_,hk⟩:=aFC hA hr
     exact hk _ (k+1) (Nat.le_refl _) (by omega)
    ·cases hr
  ·obtain ⟨_,hk⟩:=aEJ hA hr
   exact hk _ (k+1) (Nat.le_refl _) (by omega)
  ·cases hr
theorem aH8 {k k':Nat} (hk:k≤k') {f:Fn} {a:List AV} {h:aA0} {r:AV × aA0} (hr:aBe C k f a h=some r):aBe C k' f a h=some r:=by
 induction hk with
 | refl=>exact hr
 | step _ ih=>exact aIp _ f a h r ih
open Classical in
noncomputable def lim (C:Cfg):aAc:=fun f a h=>if hx:∃ r,∃ k,aBe C k f a h=some r then some (Classical.choose hx) else none
theorem aGE {f:Fn} {a:List AV} {h:aA0} {r:AV × aA0}:lim C f a h=some r↔∃ k,aBe C k f a h=some r:=by
 unfold lim
 constructor
 ·intro hr
  split at hr
  ·rename_i hx
   cases hr
   exact Classical.choose_spec hx
  ·cases hr
 ·rintro ⟨k,hk⟩
  have hx:∃ r,∃ k,aBe C k f a h=some r:=⟨r,k,hk⟩
  rw [dif_pos hx]
  obtain ⟨k',hk'⟩:=Classical.choose_spec hx
  have h1:=aH8 (C:=C) (Nat.le_max_left k k') hk
  have h2:=aH8 (C:=C) (Nat.le_max_right k k') hk'
  rw [h1] at h2
  exact h2.symm
theorem aIR:aFy (lim C) (aBe C):=fun f a h r hr=>by
 obtain ⟨k,hk⟩:=aGE.1 hr
 exact ⟨k,fun k' h'=>aH8 h' hk⟩
theorem aEi {g:Nat} (hp:C.pu g=false) {fn:AFn} (hP:C.P g=some fn) (n:Nat) {a:List AV} {h:aA0} {r:AV × aA0} (hr:aAS (lim C) n fn a h=some r):lim C (.func g) a h=some r:=by
 obtain ⟨k,hk⟩:=aFC aIR hr
 refine aGE.2 ⟨max k n+1,?_⟩
 simp only [aBe,hp,Bool.false_eq_true,if_false,hP]
 exact hk _ _ (by omega) (by omega)
theorem aFR {g:Nat} (hp:C.pu g=true) (n:Nat) {a:List AV} {h:aA0} {r:AV × aA0} (hr:aB5 C (lim C) n g a h=some r):lim C (.func g) a h=some r:=by
 obtain ⟨k,hk⟩:=aFo aIR hr
 refine aGE.2 ⟨max k n+1,?_⟩
 simp only [aBe,hp,if_true]
 exact hk _ _ (by omega) (by omega)
theorem aPj {i:Nat} (n:Nat) {a:List AV} {h:aA0} {r:AV × aA0} (hr:aCz (lim C) n i a h=some r):lim C (.yield i) a h=some r:=by
 obtain ⟨k,hk⟩:=aEJ aIR hr
 refine aGE.2 ⟨max k n+1,?_⟩
 simp only [aBe]
 exact hk _ _ (by omega) (by omega)
end
theorem aKM {G:Pg} (hmx:G.P.follows .mixedOrders=true) {g:Nat} {args:List AV} {x y:AV} {c:Bool} {h':aA0} (hr:lim G.cfg (.func g) args []=some (x,h')) (hf:freeze h' 1000 x=some (y,c)) {w:World} {vs:Array Value}
  (hv:aGp (fun _=>True) w vs args):Calls G.P g vs w fun e w'=>∃ v,e=.returned v∧Below w.heap.size w w'∧PRep (fun _=>True) w' v y:=by
 obtain ⟨k,hk⟩:=aGE.1 hr
 exact aKG hmx hk hf hv
#print axioms aKM
end Go.Proofs.Yteenffomgdfocaa.Ai
