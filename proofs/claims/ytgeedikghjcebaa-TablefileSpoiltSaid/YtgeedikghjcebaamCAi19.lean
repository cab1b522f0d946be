/- Code: whole walks. -/
import Derived.Test.YtgeedikghjcebaamCAi18
namespace Go.Proofs.Ytgeedikghjcebaa.Ai
open Go Go.RowKit
set_option linter.unusedVariables false
set_option linter.unusedSimpArgs false
def aNy:Out→Exit
 | .normal=>.normal
 | .exit id=>.exit id
 | .ret=>.ret
def InR (S0:List Ent) (ro:Option Nat):Prop:=∀ l,ro=some l→∃ (i:Nat) (t:Ent),S0[i]?=some t∧t.b=l∧t.sz=0∧t.K=1
section
variable {G : Pg} {B : Nat → Prop}
theorem Evo.alloc0 (S:List Ent) (w:World) (o:Obj):Evo S w S (w.alloc o) :=
 ⟨rfl,rfl,rfl,by rw [aC6];omega,fun b hb hn=>⟨heap_alloc_old w o b hb,hn⟩,fun i t h=>⟨t,h,Nat.le_refl _,fun _=>rfl,fun _=>rfl⟩⟩
theorem HeapRel.alloc0 {S:List Ent} {w:World} {h:aA0} (hH:HeapRel G B S w h) (o:Obj):HeapRel G B S (w.alloc o) h :=
 hH.step (Evo.alloc0 S w o) hH.len hH.inj (fun i t ht=>by have:=hH.lt i t ht;exact ⟨by rw [aC6];omega,this.2⟩) fun i t ob ht ho=>.inl ⟨ht,ho,heap_alloc_old w o _ (hH.lt i t ht).1⟩
theorem aRa {S:List Ent} {w:World} {h:aA0} (hH:HeapRel G B S w h) {i:Nat} {t:Ent} (ht:S[i]?=some t) (hz:t.sz=0) (hk:t.K=1) :
  ∃ st pend tl ps asg body,h[i]?=some (.loop st pend tl ps asg body):=by
 have hi:i < h.length:=by rw [← hH.len];exact (List.getElem?_eq_some_iff.1 ht).1
 have hh:h[i]?=some h[i]:=by simp [hi]
 have:=hH.obj i t _ ht hh
 cases ho:h[i] with
 | arr v sz x l=>rw [ho] at this;obtain ⟨_,h2,h3,_⟩:=this;omega
 | map l=>rw [ho] at this;obtain ⟨_,h2,_⟩:=this;omega
 | loop st pend tl ps asg body=>exact ⟨st,pend,tl,ps,asg,body,by rw [hh,ho]⟩
theorem aGV {S:List Ent} {w:World} {h:aA0} (hH:HeapRel G B S w h) {i:Nat} {t:Ent} (ht:S[i]?=some t) {st:LS} {pend:Option Out} {tl:List AV} {ps:List Nat} {asg body:ACode} (hh:h[i]?=some (.loop st pend tl ps asg body)) :
  ∃ L:Loop,w.heap[t.b]?=some (.loop L)∧t.sz=0∧t.K=1∧L.state=aFY st∧L.pending=pend.bind aDi∧(∀ o,pend=some o→o≠.normal)∧aAI B S w L.tmps tl∧L.params.toList=ps ∧
   (∃ hp,aIC G hp L.assign asg∧aIC G hp L.body body) ∧
   ∀ (st':LS) (pend':Option Out),(∀ o,pend'=some o→o≠.normal)→Evo S w S (w.putObj t.b (.loop { L with state:=aFY st',pending:=pend'.bind aDi })) ∧
    HeapRel G B S (w.putObj t.b (.loop { L with state:=aFY st',pending:=pend'.bind aDi })) (h.set i (.loop st' pend' tl ps asg body)):=by
 obtain ⟨h0,hk0,L,hp,h1,h2,h3,h4,h5,h6,h7,h8⟩:=hH.obj i t _ ht hh
 refine ⟨L,h1,h0,hk0,h2,h3,h4,h5,h6,⟨hp,h7,h8⟩,fun st' pend' hp' => ?_⟩
 have hlt:t.b < w.heap.size:=(Array.getElem?_eq_some_iff.1 h1).1
 have hk:∀ k,k≠t.b→(w.putObj t.b (.loop { L with state:=aFY st',pending:=pend'.bind aDi })).heap[k]?=w.heap[k]?:=fun k hk=>World.putObj_heap_other hk
 have ev:Evo S w S (w.putObj t.b (.loop { L with state:=aFY st',pending:=pend'.bind aDi })):=Evo.write rfl rfl rfl (by simp) t.b (aDy ht) hk
 exact HeapRel.write (w':=w.putObj t.b (.loop { L with state:=aFY st',pending:=pend'.bind aDi })) hH rfl rfl rfl (by simp) ht hk (.loop st' pend' tl ps asg body) ⟨h0,hk0,_,hp,World.putObj_heap_same hlt,rfl,rfl,hp',h5.evo ev,h6,h7,h8⟩
variable {S0 : List Ent} {w0 : World} {call : aA4} {hp : Bool} {ro : Option Nat}
theorem aMO (call:aA4) (n:Nat) (m:List Bool) (c:ACode) (s:St):aA9 call n (.seq (.kill m) c) s=aA9 call n c ⟨aC4 m s.t,s.h⟩:=by simp only [aA9]
theorem aJL (hC:CallOk G call) (hmx:G.P.follows .mixedOrders=true) (hR:InR S0 ro) (n:Nat) (c:Code):∀ {ac:ACode},aC9 G.P hp G.pu c=some ac→∀ (nt:Nat) (lv:Lv) (lo:Nat) {Q:Exit→Act→World→Prop} {s s':St} {out:Out} {a:Act} {w:World},
  aA9 call n (kc nt ac lv lo) s=some (out,s')→At G B S0 w0 s a w→(∀ a' w',At G B S0 w0 s' a' w'→Q (aNy out) a' w')→c.wpIn (Fw ro) 0 G.P Q a w:=by
 induction c with
 | skip =>
  intro ac hc nt lv lo Q s s' out a w hr hA hQ
  simp [aC9] at hc;subst hc
  simp [kc,aA9] at hr;obtain ⟨rfl,rfl⟩:=hr
  exact wpIn_skip (hQ a w hA)
 | region id ops draw =>
  intro ac hc nt lv lo Q s s' out a w hr hA hQ
  unfold aC9 at hc
  split at hc
  ·rename_i l hl
   split at hc
   ·rename_i hd
    split at hc
    ·cases hc
     simp only [kc,aA9] at hr
     generalize he:aAY (fun i=>aAL call (l.getD i default)) (ops.toList.map aBo) (aFj (aJz G.pu l)) s.h.length (ops.toList.map aBo).length (List.replicate (ops.toList.map aBo).length false) s=e at hr
     cases e with
     | none=>simp at hr
     | some u =>
      simp at hr;obtain ⟨rfl,rfl⟩:=hr
      simp only [Bool.and_eq_true] at hd
      rw [hd.1]
      exact aRn hC hmx hl hQ he hA id
    ·cases hc
   ·rename_i hd
    cases hc
    simp only [kc,aA9] at hr
    cases e:aB9 call l s with
    | none=>simp [e] at hr
    | some u =>
     simp [e] at hr;obtain ⟨rfl,rfl⟩:=hr
     cases draw with
     | false=>exact aPY hC hl hQ e hA id
     | true=>exact aSn hC hmx hl (by simpa using hd) hQ e hA id
  ·cases hc
 | seq x y ihx ihy =>
  intro ac hc nt lv lo Q s s' out a w hr hA hQ
  unfold aC9 at hc
  split at hc
  ·rename_i ax ay e1 e2
   cases hc
   simp only [kc,aA9] at hr
   refine wpIn_seq ?_
   split at hr
   ·rename_i s1 h1
    exact ihx e1 _ _ _ h1 hA fun a' w' hA'=>ihy e2 _ _ _ hr hA' hQ
   ·rename_i r hne
    refine ihx e1 _ _ _ hr hA fun a' w' hA' => ?_
    cases out with
    | normal=>exact (hne s' hr).elim
    | exit j=>exact hQ a' w' hA'
    | ret=>exact hQ a' w' hA'
  ·cases hc
 | cond x p q ihp ihq =>
  intro ac hc nt lv lo Q s s' out a w hr hA hQ
  unfold aC9 at hc
  split at hc
  ·rename_i ax ap aq e1 e2 e3
   cases hc
   simp only [kc,aA9] at hr
   obtain ⟨S,e0,hH,hf,hm⟩:=hA
   have hx:=aAS e1 hf
   split at hr
   ·rename_i hb
    rw [hb] at hx
    exact wpIn_cond_true hx.bool_inv (ihp e2 _ _ _ hr ⟨S,e0,hH,hf,hm⟩ hQ)
   ·rename_i hb
    rw [hb] at hx
    exact wpIn_cond_false hx.bool_inv (ihq e3 _ _ _ hr ⟨S,e0,hH,hf,hm⟩ hQ)
   ·cases hr
  ·cases hc
 | block id x ihx =>
  intro ac hc nt lv lo Q s s' out a w hr hA hQ
  simp only [aC9] at hc
  cases e1:aC9 G.P hp G.pu x with
  | none=>simp [e1] at hc
  | some ax =>
   simp [e1] at hc;subst hc
   simp only [kc,aA9] at hr
   refine wpIn_block ?_
   split at hr
   ·rename_i j s1 h1
    refine ihx e1 _ _ _ h1 hA fun a' w' hA' => ?_
    simp only [aNy,Exit.inBlock]
    split at hr
    ·rename_i hj
     cases hr
     rw [if_pos hj]
     exact hQ a' w' hA'
    ·rename_i hj
     cases hr
     rw [if_neg hj]
     exact hQ a' w' hA'
   ·rename_i r hne
    refine ihx e1 _ _ _ hr hA fun a' w' hA' => ?_
    cases out with
    | normal=>exact hQ a' w' hA'
    | exit j=>exact (hne j s' hr).elim
    | ret=>exact hQ a' w' hA'
 | loop x ihx =>
  intro ac hc nt lv lo Q s s' out a w hr hA hQ
  simp only [aC9] at hc
  cases e1:aC9 G.P hp G.pu x with
  | none=>simp [e1] at hc
  | some ax =>
   simp [e1] at hc;subst hc
   simp only [kc] at hr
   obtain ⟨H,hH⟩:∃ H,H=aCB ax lv 0:=⟨_,rfl⟩
   rw [← hH] at hr
   have key:∀ (m:Nat) (s:St) (a:Act) (w:World),aAw (aA9 call n (.seq (kc nt ax { lv with inl:=true } H) (.kill (aDG nt H)))) m s=some (out,s')→At G B S0 w0 s a w→Code.roundsIn (Fw ro) 0 G.P x Q m a w:=by
    intro m
    induction m with
    | zero=>intro s a w h hA;simp [aAw] at h
    | succ m ih =>
     intro s a w h hA
     rw [roundsIn_succ]
     simp only [aAw,aA9] at h
     cases hb:aA9 call n (kc nt ax { lv with inl:=true } H) s with
     | none=>simp [hb] at h
     | some r =>
      obtain ⟨o1,s1⟩:=r
      simp only [hb] at h
      refine ihx e1 _ _ _ hb hA fun a' w' hA' => ?_
      cases o1 with
      | normal=>exact ih _ a' w' h (hA'.kill _)
      | exit j=>simp at h;obtain ⟨rfl,rfl⟩:=h;exact hQ a' w' hA'
      | ret=>simp at h;obtain ⟨rfl,rfl⟩:=h;exact hQ a' w' hA'
   simp only [aA9] at hr
   exact wpIn_loop_rounds n (key n _ a w (by simpa only [aA9] using hr) (hA.kill _))
 | exit id =>
  intro ac hc nt lv lo Q s s' out a w hr hA hQ
  simp [aC9] at hc;subst hc
  simp only [kc] at hr
  split at hr
  ·simp [aA9] at hr;obtain ⟨rfl,rfl⟩:=hr
   exact wpIn_exit (hQ a w (hA.kill _))
  ·simp [aA9] at hr;obtain ⟨rfl,rfl⟩:=hr
   exact wpIn_exit (hQ a w hA)
 | ret =>
  intro ac hc nt lv lo Q s s' out a w hr hA hQ
  simp [aC9] at hc;subst hc
  simp only [kc] at hr
  split at hr
  ·simp [aA9] at hr;obtain ⟨rfl,rfl⟩:=hr
   exact wpIn_ret (hQ a w (hA.kill _))
  ·simp [aA9] at hr;obtain ⟨rfl,rfl⟩:=hr
   exact wpIn_ret (hQ a w hA)
 | rangeFunc g ps asg body iha ihb =>
  intro ac hc nt lv lo Q s s' out a w hr hA hQ
  unfold aC9 at hc
  split at hc
  ·rename_i af aasg0 abody0 e1 e2' e3'
   cases hc
   simp only [kc] at hr
   rw [aMO] at hr
   obtain ⟨HA,hHA⟩:∃ H,H=aCB aasg0 lv (aCB abody0 lv 0):=⟨_,rfl⟩
   rw [← hHA] at hr
   replace hA:=hA.kill (aDG nt (aEZ af.rd ||| lo ||| HA))
   revert hr hA
   generalize (⟨aC4 (aDG nt (aEZ af.rd ||| lo ||| HA)) s.t,s.h⟩:St)=s
   intro hr hA
   simp only [aA9] at hr
   obtain ⟨aasg,hasg⟩:∃ x,x=ACode.seq (.kill (aDG nt HA)) (kc nt aasg0 lv (aCB abody0 lv 0)):=⟨_,rfl⟩
   obtain ⟨abody,hbody⟩:∃ x,x=ACode.seq (kc nt abody0 { lv with inl:=true } HA) (.kill (aDG nt (ps.toList.foldr (fun p s=>aNE s p) HA))):=⟨_,rfl⟩
   rw [← hasg,← hbody] at hr
   have e2:aIC G hp asg aasg:=⟨_,[],aasg0,nt,lv,_,e2',.inl hasg⟩
   have e3:aIC G hp body abody:=⟨[],_,abody0,nt,_,_,e3',.inr hbody⟩
   obtain ⟨S,e0,hH,hf,hm⟩:=hA
   have hg:=aAS e1 hf
   split at hr
   ·rename_i gf first caps ef
    rw [ef] at hg
    obtain ⟨v1,v2,eg,r1,r2⟩:=hg.fn_inv
    split at hr
    ·rename_i xr h3 hcall
     split at hr
     ·rename_i st pend tl ps' asg' body' hh3
      split at hr
      ·cases hr
      ·rename_i hbusy
       cases hr
       refine wpIn_rangeFunc fun fn _ => ?_
       -- entering
       have enter:∃ (mark:List Deferred) (dfr:Nat) (wd:World),Evo S w S wd∧HeapRel G B S wd s.h∧(∀ S' w',Evo S wd S' w'→aIB S' w' w0.heap.size (mark++a.defers)) ∧
         (Instr.enterLoop fn a.tmps ps asg body ro).run G.P w=.ok (wd.heap.size,mark) (wd.alloc (.loop { state:=.ready,pending:=none,fn,tmps:=a.tmps,params:=ps,assign:=asg,body:=body,defers:=dfr })):=by
        cases ro with
        | none =>
         have ev:=Evo.alloc0 S w (.deferred (some []))
         refine ⟨[{ target := .collected w.heap.size, args := #[] }], w.heap.size, w.alloc (.deferred (some [])), ev, hH.alloc0 _, fun S' w' ev' => ?_, ?_⟩
         ·have hm':=(hm.evo ev).evo ev'
          have hnew:(w.alloc (.deferred (some []))).heap[w.heap.size]?=some (.deferred (some [])):=heap_alloc_new w _
          have hnot:w.heap.size ∉ aCi S:=fun hb=>by
           obtain ⟨u,hu1,hu2⟩:=List.mem_map.1 hb
           obtain ⟨j,hj⟩:=List.getElem?_of_mem hu1
           have:=(hH.lt j u hj).1;omega
          obtain ⟨k1,k2⟩:=ev'.keep w.heap.size (by rw [aC6];omega) hnot
          refine ⟨List.pairwise_cons.2 ⟨fun d hd he => ?_,hm'.1⟩,fun d hd => ?_⟩
          ·obtain ⟨r,q1,q2,q3,q4⟩:=hm.2 d hd
           rw [q1] at he
           cases he
           have:=(Array.getElem?_eq_some_iff.1 q4).1
           omega
          ·rcases List.mem_cons.1 hd with rfl | hd
           ·exact ⟨w.heap.size,rfl,e0.size,k2,k1.trans hnew⟩
           ·exact hm'.2 d hd
         ·rw [run_enterLoop_outer];simp [aC6]
        | some l₀ =>
         obtain ⟨i,t,ht,rfl,hz,hk⟩:=hR l₀ rfl
         obtain ⟨t',ht',_,_,h4⟩:=e0.ids i t ht
         have:=h4 hz;subst this
         obtain ⟨_,_,_,_,_,_,hloop⟩:=aRa hH ht' hz hk
         obtain ⟨L,hL,_⟩:=aGV hH ht' hloop
         exact ⟨[],L.defers,w,Evo.refl S w,hH,fun S' w' ev'=>by simpa using hm.evo ev',by unfold Instr.enterLoop;simp only [Sem.run_bind,run_getLoop hL,run_newObj_alloc,Result.andThen,Sem.run_pure]⟩
       obtain ⟨mark,dfr,wd,ev1,hH1,hm1,hrun⟩:=enter
       let L0:Loop:={ state:=.ready,pending:=none,fn,tmps:=a.tmps,params:=ps,assign:=asg,body:=body,defers:=dfr }
       let te:Ent:=⟨wd.heap.size,0,0,0,1⟩
       have ev2:Evo S wd (S++[te]) (wd.alloc (.loop L0)):=Evo.alloc S wd _ te (Nat.le_refl _)
       have hf2:aAI B (S++[te]) (wd.alloc (.loop L0)) a.tmps s.t:=(hf.evo ev1).evo ev2
       have hH2:HeapRel G B (S++[te]) (wd.alloc (.loop L0)) (s.h++[.loop .ready none s.t ps.toList aasg abody]) :=
        hH1.alloc _ te _ rfl ⟨rfl,rfl,L0,hp,heap_alloc_new wd _,rfl,rfl,(fun o h=>by cases h),hf2,rfl,e2,e3⟩
       have hte:(S++[te])[s.h.length]?=some te:=by rw [← hH.len];simp
       have hy : Rep B (S ++ [te]) (wd.alloc (.loop L0)) (.func (.yield wd.heap.size) #[] #[]) (.fn (.yield s.h.length) [] []) := .yield s.h.length te hte rfl
       obtain ⟨k1,k2⟩:=hC.fn B (S++[te]) (wd.alloc (.loop L0)) _ _ _ gf xr h3 hcall hH2 ((((r1.evo ev1).evo ev2).append (aAI.single hy)).append ((r2.evo ev1).evo ev2))
       refine ⟨wd.heap.size, mark, wd.alloc (.loop L0), { target := .fn (.func gf) v2, args := v1 ++ #[.func (.yield wd.heap.size) #[] #[]] }, wd.alloc (.loop L0), gf, v1 ++ #[.func (.yield wd.heap.size) #[] #[]] ++ v2, wd.alloc (.loop L0), hrun, ?_, fun _ _ => trivial, ?_, fun h => by simp at h, ?_⟩
       ·have hev : a.eval (.const (.func (.yield wd.heap.size) #[] #[])) = .func (.yield wd.heap.size) #[] #[] := rfl
        simp only [resolve,eg,Deferred.ofValue,Sem.run_pure,List.map_toArray,List.map_cons,List.map_nil,hev]
       ·simp only [invoke]
        exact k1 _ _
       ·refine CallsIn.mono (F:=Fw ro) (n:=0) (k2:CallsIn (Fw ro) 0 G.P gf _ _ _) fun e w3 he => ?_
        obtain ⟨v,S3,rfl,j1,j2,j3⟩:=he
        obtain ⟨t',ht',_,_,h4⟩:=j1.ids s.h.length te hte
        have:=h4 rfl;subst this
        obtain ⟨L3,g1,_,_,g2,g3,g4,g5,g6,g7,g8⟩:=aGV j2 ht' hh3
        obtain ⟨ev4,hH4⟩:=g8 .exhausted pend g4
        have hbz:L3.state≠.busy:=by rw [g2];cases st <;> simp [aFY] at hbusy ⊢
        have hrun3:=run_endLoop (P:=G.P) g1 hbz
        have hAt:At G B S0 w0 ⟨s.t,h3.set s.h.length (.loop .exhausted pend tl ps' asg' body')⟩ { a with defers:=mark++a.defers } (w3.putObj te.b (.loop { L3 with state:=aFY .exhausted,pending:=pend.bind aDi })) :=
         ⟨S3,(((e0.trans ev1).trans ev2).trans j1).trans ev4,hH4,(hf2.evo j1).evo ev4,hm1 S3 _ ((ev2.trans j1).trans ev4)⟩
        refine ⟨_,_,hrun3,?_⟩
        rw [g3]
        cases hpn:pend with
        | none =>
         subst hpn
         exact hQ _ _ hAt
        | some o =>
         subst hpn
         cases o with
         | normal=>exact absurd rfl (g4 _ rfl)
         | exit id=>exact wpIn_exit (hQ _ _ hAt)
         | ret=>exact wpIn_ret (hQ _ _ hAt)
     ·cases hr
    ·cases hr
   ·cases hr
  ·cases hc
 | _=>intro ac hc;simp [aC9] at hc
theorem aNk (hC:CallOk G call) (hmx:G.P.follows .mixedOrders=true) (hR:InR S0 ro) (n:Nat) (c:Code) {ac:ACode} (hc:aIC G hp c ac) {Q:Exit→Act→World→Prop} {s s':St} {out:Out} {a:Act} {w:World}
  (hr:aA9 call n ac s=some (out,s')) (hA:At G B S0 w0 s a w) (hQ:∀ a' w',At G B S0 w0 s' a' w'→Q (aNy out) a' w'):c.wpIn (Fw ro) 0 G.P Q a w:=by
 obtain ⟨m,m',a0,nt,lv,o,h1,rfl | rfl⟩:=hc
 ·simp only [aA9] at hr
  exact aJL hC hmx hR n c h1 nt lv o hr (hA.kill m) hQ
 ·simp only [aA9] at hr
  cases hb:aA9 call n (kc nt a0 lv o) s with
  | none=>simp [hb] at hr
  | some r =>
   obtain ⟨o1,s1⟩:=r
   simp only [hb] at hr
   refine aJL hC hmx hR n c h1 nt lv o hb hA fun a' w' hA' => ?_
   cases o1 with
   | normal=>simp at hr;obtain ⟨rfl,rfl⟩:=hr;exact hQ _ _ (hA'.kill m')
   | exit j=>simp at hr;obtain ⟨rfl,rfl⟩:=hr;exact hQ _ _ hA'
   | ret=>simp at hr;obtain ⟨rfl,rfl⟩:=hr;exact hQ _ _ hA'
end
end Go.Proofs.Ytgeedikghjcebaa.Ai
