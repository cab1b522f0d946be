/- All operations together: a compiled operation does what the model's does. -/
import Derived.Test.YteenffomgdfocaamCAi14
namespace Go.Proofs.Yteenffomgdfocaa.Ai
open Go Go.RowKit
set_option linter.unusedVariables false
set_option linter.unusedSimpArgs false
section
variable {G : Pg} {B : Nat → Prop} {S : List Ent} {w : World} {h : aA0}
theorem aB0 {o:Option AV} {hh h':aA0} {x:AV} (hr:(o.map fun v=>AR.v v hh)=some (.v x h')):o=some x∧hh=h':=by
 cases o with
 | none=>simp at hr
 | some v=>simp at hr;exact ⟨by rw [hr.1],hr.2⟩
theorem aSl {hp:Bool} {o:Oper} {ao:AOp} (hc:cOp G.P hp o=some ao) {a:Act} {tl:List AV} (hf:aAx B S w a.tmps tl) (hH:HeapRel G B S w h) {x:AV} {h':aA0} (hr:aop h tl ao=some (.v x h')) :
    OkN G B S w ((execOp a.eval o).run G.P w) h' x:=by
  unfold cOp at hc
  unfold execOp
  split at hc
  -- move
  · rename_i y hop
    rw [hop]
    dsimp only
    cases hy:cX y with
    | none=>simp [hy] at hc
    | some ay =>
      simp [hy] at hc;subst hc
      simp [aop] at hr;obtain ⟨rfl,rfl⟩:=hr
      exact OkN.val hH (aAC hy hf)
  · rename_i y hop
    rw [hop]
    dsimp only
    cases hy:cX y with
    | none=>simp [hy] at hc
    | some ay =>
      simp [hy] at hc;subst hc
      simp [aop] at hr;obtain ⟨rfl,rfl⟩:=hr
      exact OkN.val hH (aAC hy hf)
  -- pick
  · rename_i c p q hop
    rw [hop]
    dsimp only
    split at hc
    · rename_i ac ap aq e1 e2 e3
      cases hc
      simp only [aop] at hr
      have r1:=aAC e1 hf
      split at hr
      · rename_i hb
        rw [hb] at r1
        have:=r1.bool_inv
        simp at hr;obtain ⟨rfl,rfl⟩:=hr
        exact ⟨_,w,S,.inl (by simp [this,asBool]),Evo.refl S w,hH,aAC e2 hf⟩
      · rename_i hb
        rw [hb] at r1
        have:=r1.bool_inv
        simp at hr;obtain ⟨rfl,rfl⟩:=hr
        exact ⟨_,w,S,.inl (by simp [this,asBool]),Evo.refl S w,hH,aAC e3 hf⟩
      · cases hr
    · cases hc
  -- alloc
  · rename_i t hop
    rw [hop]
    dsimp only
    cases hz:aBY G.P t with
    | none=>simp [hz] at hc
    | some z=>simp [hz] at hc;subst hc;simp [aop] at hr;obtain ⟨rfl,rfl⟩:=hr;exact (aQB hH hz).n
  -- box
  · rename_i t y hop
    rw [hop]
    dsimp only
    split at hc
    · rename_i n ay e1 e2
      cases hc
      simp only [aop] at hr
      split at hr
      · rename_i hn;simp at hr;obtain ⟨rfl,rfl⟩:=hr;exact (aSi hH e1 (aAC e2 hf) hn).n
      · cases hr
    · cases hc
  -- load
  · rename_i t y hop
    rw [hop]
    dsimp only
    split at hc
    · rename_i n g ay e1 e2 e3
      cases hc
      simp only [aop] at hr
      have hr2:=(aB0 hr).1
      obtain rfl:=(aB0 hr).2
      clear hr
      have hr:=hr2
      obtain ⟨v,h1,h2,_⟩:=aNM hH e1 e2 (aAC e3 hf) hr
      exact (Ok.same hH h1 h2).n
    · cases hc
  -- store
  · rename_i t y z hop
    rw [hop]
    dsimp only
    split at hc
    · rename_i n ay az e1 e2 e3
      cases hc
      simp only [aop] at hr
      cases hs:aAq h n (ay.ev tl) (az.ev tl) with
      | none=>simp [hs] at hr
      | some hh =>
        simp [hs] at hr;obtain ⟨rfl,rfl⟩:=hr
        obtain ⟨w',k1,k2,k3⟩:=aPX hH e1 (aAC e2 hf) (aAC e3 hf) hs
        exact (show OkU G B S w _ _ from ⟨w',S,k1,k2,k3⟩).n
    · cases hc
  -- nilCheck
  · rename_i y hop
    rw [hop]
    dsimp only
    cases hy:cX y with
    | none=>simp [hy] at hc
    | some ay =>
      simp [hy] at hc;subst hc
      have rx:=aAC hy hf
      simp only [aop] at hr
      split at hr
      · rename_i f p q he
        rw [he] at rx
        obtain ⟨v1,v2,e,_,_⟩:=rx.fn_inv
        simp at hr;obtain ⟨rfl,rfl⟩:=hr
        rw [← he]
        refine ⟨_,w,S,.inl ?_,Evo.refl S w,hH,aAC hy hf⟩
        simp only [e];rfl
      · rename_i hne
        have hr2:=(aB0 hr).1
        obtain rfl:=(aB0 hr).2
        clear hr
        have hr:=hr2
        obtain ⟨k1,b,k2⟩:=aN6 hH rx hr
        refine ⟨_,w,S,.inl ?_,Evo.refl S w,hH,k1⟩
        simp only [k2];rfl
  -- binOp
  · rename_i op t y z t2 hop
    rw [hop]
    dsimp only
    split at hc
    · rename_i ay az e1 e2
      cases hq:aFW G.P t with
      | none=>simp [hq] at hc
      | some q =>
        simp [hq] at hc;subst hc
        simp only [aop] at hr
        have hr2:=(aB0 hr).1
        obtain rfl:=(aB0 hr).2
        clear hr
        have hr:=hr2
        obtain ⟨v,h1,h2⟩:=aSj hq (aAC e1 hf) (aAC e2 hf) hr y z
        exact (Ok.same hH h1 h2).n
    · cases hc
  -- unOp
  · rename_i op t y hop
    rw [hop]
    dsimp only
    cases hy:cX y with
    | none=>simp [hy] at hc
    | some ay =>
      simp [hy] at hc;subst hc
      simp only [aop] at hr
      have hr2:=(aB0 hr).1
      obtain rfl:=(aB0 hr).2
      clear hr
      have hr:=hr2
      obtain ⟨v,h1,h2⟩:=aSw (G:=G) (aAC hy hf) hr
      exact (Ok.same hH h1 h2).n
  -- convert
  · rename_i src dst y hop
    rw [hop]
    dsimp only
    split at hc
    · rename_i k1 k ay hu1 hu2 e1
      cases hc
      have rx:=aAC e1 hf
      simp only [aop] at hr
      split at hr
      · rename_i kk n he
        rw [he] at rx
        have e:=rx.int_inv
        simp at hr;obtain ⟨rfl,rfl⟩:=hr
        refine (Ok.same (x:=.int k (k.wrap n)) hH (v:=.int k (k.wrap n)) ?_ (.int _ _)).n
        simp only [convert,Sem.run_bind,run_underlying hu1,run_underlying hu2,Result.andThen_ok,e]
        rfl
      · cases hr
    · rename_i ay hu1 hu2 e1
      cases hc
      have rx:=aAC e1 hf
      simp only [aop] at hr
      split at hr
      · rename_i s he
        rw [he] at rx
        obtain ⟨bs,e,hs⟩:=rx.str_inv
        simp at hr;obtain ⟨rfl,rfl⟩:=hr
        refine (Ok.same (x:=.str s) hH (v:=.string bs) ?_ (.str' hs)).n
        simp only [convert,Sem.run_bind,run_underlying hu1,run_underlying hu2,Result.andThen_ok,e]
        rfl
      · cases hr
    · rename_i e ay hu1 hu2 e1
      split at hc
      · rename_i hu3
        cases hc
        have rx:=aAC e1 hf
        simp only [aop] at hr
        split at hr
        · rename_i s he
          rw [he] at rx
          obtain ⟨bs,e,hs⟩:=rx.str_inv
          simp at hr;obtain ⟨rfl,rfl⟩:=hr
          rw [e,← hs]
          exact (aMW hH hu1 hu2 hu3 bs).n
        · cases hr
      · cases hc
    · rename_i e ay hu1 hu2 e1
      split at hc
      · rename_i hu3
        cases hc
        have rx:=aAC e1 hf
        simp only [aop] at hr
        have hr2:=(aB0 hr).1
        obtain rfl:=(aB0 hr).2
        exact (aNd hH hu1 hu2 hu3 rx hr2).n
      · cases hc
    · rename_i e0 e ay hu1 hu2 e1
      split at hc
      · rename_i hu3
        split at hc
        · rename_i hsd
          cases hc
          subst hsd
          have rx:=aAC e1 hf
          simp only [aop] at hr
          have hr2:=(aB0 hr).1
          obtain rfl:=(aB0 hr).2
          exact (aQg hH hu1 hu2 hu3 rx hr2).n
        · cases hc
      · cases hc
    · cases hc
  -- makeFunc
  · rename_i f p q hop
    rw [hop]
    dsimp only
    split at hc
    · rename_i ap aq e1 e2
      split at hc
      · rename_i g
        cases hc
        simp [aop] at hr;obtain ⟨rfl,rfl⟩:=hr
        have r1:=aHK e1 hf
        have r2:=aHK e2 hf
        refine (Ok.same (x:=.fn (.func g) (avs tl ap) (avs tl aq)) hH (v:=.func (.func g) (p.map a.eval) (q.map a.eval)) ?_ (.fn g _ _ _ _ r1.1 r2.1 r1.2 r2.2)).n
        rfl
      · cases hc
    · cases hc
  -- makeMap
  · rename_i t hop
    rw [hop]
    dsimp only
    cases hc
    simp [aop] at hr;obtain ⟨rfl,rfl⟩:=hr
    exact (aQf hH t).n
  -- makeSlice
  · rename_i t l c hop
    rw [hop]
    dsimp only
    split at hc
    · rename_i e hu
      split at hc
      · rename_i n b z al ac e1 e2 e3 e4 e5
        cases hc
        have r1:=aAC e4 hf
        have r2:=aAC e5 hf
        simp only [aop] at hr
        split at hr
        · rename_i k1 l1 k2 c1 h1 h2
          rw [h1] at r1;rw [h2] at r2
          have q1:=r1.int_inv
          have q2:=r2.int_inv
          split at hr
          · rename_i hcond
            simp at hr;obtain ⟨rfl,rfl⟩:=hr
            rw [q1,q2]
            exact (aOd hH hu e1 e2 e3 hcond.1 hcond.2.1 hcond.2.2).n
          · cases hr
        · cases hr
      · cases hc
    · cases hc
  -- slice
  · rename_i t y lo hi mx hop
    rw [hop]
    dsimp only
    split at hc
    · rename_i e ay alo ahi amx hu e1 e2 e3 e4
      cases hs:aAM G.P e with
      | none=>simp [hs] at hc
      | some n =>
        simp [hs] at hc;subst hc
        simp only [aop] at hr
        have hr2:=(aB0 hr).1
        obtain rfl:=(aB0 hr).2
        clear hr
        have hr:=hr2
        have conv:∀ {p:Option Operand} {q:Option AX},cXo p=some q→(p=none∧q.map (AX.ev tl)=none)∨∃ y ay,p=some y∧q.map (AX.ev tl)=some ay∧Rep B S w (a.eval y) ay:=by
          intro p q hpq
          rcases aPz hpq hf with ⟨rfl,rfl⟩ | ⟨y,ay,rfl,rfl,hy⟩
          · exact .inl ⟨rfl,rfl⟩
          · exact .inr ⟨y,_,rfl,rfl,hy⟩
        exact (aPY hH hu hs (aAC e1 hf) (conv e2) (conv e3) (conv e4) hr).n
    · rename_i ay alo ahi hu e1 e2 e3 e4
      cases hc
      have hmx:mx=none:=by
        unfold cXo at e4
        split at e4
        · rfl
        · rename_i z;cases hz:cX z with
          | none=>simp [hz] at e4
          | some q=>simp [hz] at e4
      subst hmx
      simp only [aop] at hr
      have hr2:=(aB0 hr).1
      obtain rfl:=(aB0 hr).2
      clear hr
      have hr:=hr2
      have conv:∀ {p:Option Operand} {q:Option AX},cXo p=some q→(p=none∧q.map (AX.ev tl)=none)∨∃ y ay,p=some y∧q.map (AX.ev tl)=some ay∧Rep B S w (a.eval y) ay:=by
        intro p q hpq
        rcases aPz hpq hf with ⟨rfl,rfl⟩ | ⟨y,ay,rfl,rfl,hy⟩
        · exact .inl ⟨rfl,rfl⟩
        · exact .inr ⟨y,_,rfl,rfl,hy⟩
      exact (aMY hH hu (aAC e1 hf) (conv e2) (conv e3) hr).n
    · cases hc
  -- fieldAddr
  · rename_i s y f hop
    rw [hop]
    dsimp only
    split at hc
    · rename_i off n g ay e1 e2
      cases hc
      simp only [aop] at hr
      have hr2:=(aB0 hr).1
      obtain rfl:=(aB0 hr).2
      clear hr
      have hr:=hr2
      exact (aM5 hH e1 (aAC e2 hf) hr).n
    · cases hc
  -- field
  · rename_i s y f hop
    rw [hop]
    dsimp only
    split at hc
    · rename_i off n g ay e1 e2
      cases hc
      have rx:=aAC e2 hf
      simp only [aop] at hr
      split at hr
      · rename_i l he
        rw [he] at rx
        have hr2:=(aB0 hr).1
        obtain rfl:=(aB0 hr).2
        clear hr
        have hr:=hr2
        exact (aQl hH e1 rx hr).n
      · cases hr
    · cases hc
  -- indexAddr
  · rename_i t y z hop
    rw [hop]
    dsimp only
    split at hc
    · rename_i e ay az hu e1 e2
      cases hs:aAM G.P e with
      | none=>simp [hs] at hc
      | some n =>
        simp [hs] at hc;subst hc
        simp only [aop] at hr
        have hr2:=(aB0 hr).1
        obtain rfl:=(aB0 hr).2
        clear hr
        have hr:=hr2
        exact (aLY hH hu hs (aAC e1 hf) (aAC e2 hf) hr).n
    · rename_i len e ay az hu e1 e2
      cases hs:aAM G.P e with
      | none=>simp [hs] at hc
      | some n =>
        simp [hs] at hc;subst hc
        have r2:=aAC e2 hf
        simp only [aop] at hr
        split at hr
        · rename_i k j he
          rw [he] at r2
          have q2:=r2.int_inv
          split at hr
          · rename_i hj
            have hr2:=(aB0 hr).1
            obtain rfl:=(aB0 hr).2
            clear hr
            have hr:=hr2
            rw [q2]
            exact (aN9 hH hu hs (aAC e1 hf) hj.1 hj.2 hr).n
          · cases hr
        · cases hr
    · cases hc
  -- index
  · rename_i t y z hop
    rw [hop]
    dsimp only
    split at hc
    · rename_i ay az hu e1 e2
      cases hc
      have r1:=aAC e1 hf
      have r2:=aAC e2 hf
      simp only [aop] at hr
      split at hr
      · rename_i s k j h1 h2
        rw [h1] at r1;rw [h2] at r2
        have q2:=r2.int_inv
        split at hr
        · rename_i hj
          have hr2:=(aB0 hr).1
          obtain rfl:=(aB0 hr).2
          clear hr
          have hr:=hr2
          cases hb:s[j.toNat]? with
          | none=>simp [hb] at hr
          | some b =>
            simp [hb] at hr;subst hr
            rw [q2]
            exact (aN8 hH hu r1 hj hb).n
        · cases hr
      · cases hr
    · rename_i len e ay az hu e1 e2
      split at hc
      · rename_i n g e3 e4
        cases hc
        have r1:=aAC e1 hf
        have r2:=aAC e2 hf
        simp only [aop] at hr
        split at hr
        · rename_i l k j h1 h2
          rw [h1] at r1;rw [h2] at r2
          have q2:=r2.int_inv
          split at hr
          · rename_i hj
            have hr2:=(aB0 hr).1
            obtain rfl:=(aB0 hr).2
            clear hr
            have hr:=hr2
            rw [q2]
            exact (aNa hH hu e3 e4 r1 hj.1 hj.2 hr).n
          · cases hr
        · cases hr
      · cases hc
    · cases hc
  -- lookup
  · rename_i t m k ok hop
    rw [hop]
    dsimp only
    split at hc
    · rename_i kt et am ak hu e1 e2
      split at hc
      · rename_i q z e3 e4
        cases hc
        simp only [aop] at hr
        split at hr
        · rename_i l hl
          split at hr
          · rename_i hok
            cases hz:aBM q (ak.ev tl) l 0 with
            | none=>simp [hz] at hr
            | some r=>simp [hz] at hr;obtain ⟨rfl,rfl⟩:=hr;exact (aPi hH hu e3 e4 (aAC e1 hf) (aAC e2 hf) hl hok hz ok).n
          · cases hr
        · cases hr
      · cases hc
    · cases hc
  -- mapUpdate
  · rename_i t m k y hop
    rw [hop]
    dsimp only
    split at hc
    · rename_i kt et am ak ay hu e1 e2 e3
      cases hs:aBS G.P kt with
      | none=>simp [hs] at hc
      | some q =>
        simp [hs] at hc;subst hc
        have rm:=aAC e1 hf
        simp only [aop] at hr
        split at hr
        · rename_i i hm
          rw [hm] at rm
          split at hr
          · rename_i l hl
            split at hr
            · rename_i hok
              cases hz:aBM q (ak.ev tl) l 0 with
              | none=>simp [hz] at hr
              | some r=>simp [hz] at hr;obtain ⟨rfl,rfl⟩:=hr;exact (aLT hH hu hs rm (aAC e2 hf) (aAC e3 hf) hl hok hz).n
            · cases hr
          · cases hr
        · cases hr
    · cases hc
  -- extract
  · rename_i y i hop
    rw [hop]
    dsimp only
    cases hy:cX y with
    | none=>simp [hy] at hc
    | some ay =>
      simp [hy] at hc;subst hc
      have rx:=aAC hy hf
      simp only [aop] at hr
      split at hr
      · rename_i l he
        rw [he] at rx
        have hr2:=(aB0 hr).1
        obtain rfl:=(aB0 hr).2
        clear hr
        have hr:=hr2
        obtain ⟨vs,e,rv⟩:=rx.tup_inv
        have r1:=rv.2 i x hr
        have hi:i < vs.size:=by rw [rv.1];exact (List.getElem?_eq_some_iff.1 hr).1
        have e1:vs[i]?=some vs[i]:=by simp [hi]
        have e2:vs.getD i Go.undef=vs[i]:=by simp [hi]
        rw [e2] at r1
        rw [e]
        exact (Ok.same hH (v:=vs[i]) (by simp [Instr.extract,e1]) r1).n
      · cases hr
  -- call
  · rename_i c hop
    rw [hop]
    dsimp only
    split at hc
    · rename_i f args e1 e2
      cases hy:cX f with
      | none=>simp [hy] at hc
      | some ay =>
        simp [hy] at hc;subst hc
        simp only [aop] at hr
        split at hr <;> simp at hr
    · rename_i b args e1 e2
      have rv:=aHK e2 hf
      have:=aOv hH hc rv hr o.type (c.args.map fun | .const _=>true | _=>false)
      simp only [resolve,e1,Sem.run_bind,Sem.run_pure,Result.andThen_ok,invoke]
      exact this
    · rename_i recv m args e1 e2
      cases hy:cX recv with
      | none=>simp [hy] at hc
      | some ay =>
        simp [hy] at hc;subst hc
        simp only [aop] at hr
        repeat' split at hr
        all_goals simp at hr
    · cases hc
  -- build
  · rename_i t parts hop
    rw [hop]
    dsimp only
    split at hc
    · rename_i fs hu
      split at hc
      · rename_i z ps e1 e2
        split at hc
        · rename_i hall
          cases hc
          simp only [aop] at hr
          cases hz:aAG z (ps.map fun (o,n,x)=>(o,n,x.ev tl)) with
          | none=>simp [hz] at hr
          | some cs=>simp [hz] at hr;obtain ⟨rfl,rfl⟩:=hr;exact (aMi hH hu hall e1 e2 hf hz).n
        · cases hc
      · cases hc
    · rename_i len e hu
      split at hc
      · rename_i n z e1 e2
        cases hps:aAk (aJn n) parts.toList with
        | none=>simp [hps] at hc
        | some ps =>
          simp [hps] at hc;subst hc
          simp only [aop] at hr
          cases hz:aAG z (ps.map fun (o,n,x)=>(o,n,x.ev tl)) with
          | none=>simp [hz] at hr
          | some cs=>simp [hz] at hr;obtain ⟨rfl,rfl⟩:=hr;exact (aNe hH hu e1 e2 hps hf hz).n
      · cases hc
    · cases hc
  -- buildSlice
  · rename_i t len parts hop
    rw [hop]
    dsimp only
    split at hc
    · rename_i e hu
      split at hc
      · rename_i n z ps e1 e2 e3
        cases hc
        simp only [aop] at hr
        split at hr
        · rename_i hcond
          cases hz:aAG ((List.replicate len z).flatten) (aBD n (ps.map fun (i,x)=>(i,x.ev tl))) with
          | none=>simp [hz] at hr
          | some cs =>
            simp only [hz,Option.map_some,Option.some.injEq] at hr
            obtain ⟨x',h'',k1,k2⟩:=aLa hH hu e1 e2 e3 hf hcond.1 hcond.2 hp hz
            rw [k1] at hr
            cases hr
            exact k2.n
        · cases hr
      · cases hc
    · cases hc
  -- makeInterface
  · rename_i t y hop
    rw [hop]
    dsimp only
    split at hc
    · cases hc
    · rename_i d hu hd
      cases hy:cX y with
      | none=>simp [hy] at hc
      | some ay =>
        simp [hy] at hc;subst hc
        simp [aop] at hr;obtain ⟨rfl,rfl⟩:=hr
        refine (Ok.same (x:=.iface t (ay.ev tl)) hH (v:=.iface t (a.eval y)) ?_ (.iface t _ _ (aAC hy hf))).n
        simp only [Instr.makeInterface,Sem.run_bind,run_underlying hd,Result.andThen_ok]
        first
          | rfl
          | (split
             · rename_i ms;exact (hu ms rfl).elim
             · rfl)
    · cases hc
  · cases hc
end
end Go.Proofs.Yteenffomgdfocaa.Ai
