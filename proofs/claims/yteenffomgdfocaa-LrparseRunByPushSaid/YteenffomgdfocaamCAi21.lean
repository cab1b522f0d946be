/- How a function leaves; a function's contract; a round; the interpreter is right. -/
import Derived.Test.YteenffomgdfocaamCAi20
namespace Go.Proofs.Yteenffomgdfocaa.Ai
open Go Go.RowKit
set_option linter.unusedVariables false
set_option linter.unusedSimpArgs false
theorem Rep.same {B:Nat→Prop} {S:List Ent} {w w':World} {v:Value} {a:AV} (h:Rep B S w v a) (hc:∀ (ad:Addr) (x:Value),w.cell? ad=some x→w'.cell? ad=some x):Rep B S w' v a:=by
 induction h with
 | pure v a h=>exact .pure v a (h.mono fun ad x hI hx=>⟨hI,hc ad x hx⟩)
 | ptr i e o t ht=>exact .ptr i e o t ht
 | ptrOld b p i v e o t ht hv=>exact .ptrOld _ _ i _ e o t ht hv
 | hsl i o len cap c a t ht hl hK h1 hn ha hsp=>exact .hsl i o len cap c a t ht hl hK h1 hn ha hsp
 | hslOld val i v o n cap c t ht hv=>exact .hslOld _ i _ o n cap c t ht hv
 | map i t ht hz=>exact .map i t ht hz
 | yield i t ht hz=>exact .yield i t ht hz
 | fn g v1 v2 l1 l2 h1 h2 r1 r2 i1 i2=>exact .fn g v1 v2 l1 l2 h1 h2 i1 i2
 | iface t v x h ih=>exact .iface t v x ih
 | agg vs l hs hr ih=>exact .agg vs l hs ih
 | tup vs l hs hr ih=>exact .tup vs l hs ih
theorem aAx.same {B:Nat→Prop} {S:List Ent} {w w':World} {vs:Array Value} {l:List AV} (h:aAx B S w vs l) (hc:∀ (ad:Addr) (x:Value),w.cell? ad=some x→w'.cell? ad=some x):aAx B S w' vs l :=
 ⟨h.1,fun j x hj=>(h.2 j x hj).same hc⟩
theorem HeapRel.same {G:Pg} {B:Nat→Prop} {S:List Ent} {w w':World} {h:aA0} (hH:HeapRel G B S w h) (hc:∀ (ad:Addr) (x:Value),w.cell? ad=some x→w'.cell? ad=some x) (hs:w'.heap.size=w.heap.size)
  (hb:∀ (i:Nat) (t:Ent),S[i]?=some t→w'.heap[t.b]?=w.heap[t.b]?):HeapRel G B S w' h where
 len:=hH.len
 inj:=hH.inj
 lt:=fun i t ht=>by rw [hs];exact hH.lt i t ht
 obj:=fun i t o ht ho=>by
  have hk:=hb i t ht
  have:=hH.obj i t o ht ho
  cases o with
  | arr v sz x l =>
   obtain ⟨h1,h2,h3,h4,h5,cs,ty,⟨fz,hz,h6⟩,h7,h8⟩:=this
   exact ⟨h1,h2,h3,h4,h5,cs,ty,⟨fz,hz,hk.trans h6⟩,h7,fun e c he=>⟨(h8 e c he).1,fun j x hj=>((h8 e c he).2 j x hj).same hc⟩⟩
  | map l =>
   obtain ⟨h0,hk0,es,clock,h1,h2,h3⟩:=this
   refine ⟨h0,hk0,es,clock,hk.trans h1,h2,fun j k x hj => ?_⟩
   obtain ⟨en,e1,e2,e3⟩:=h3 j k x hj
   exact ⟨en,e1,e2.same hc,e3.same hc⟩
  | loop st pend tl ps asg body =>
   obtain ⟨h0,hk0,L,hp,h1,h2,h3,h4,h5,h6⟩:=this
   exact ⟨h0,hk0,L,hp,hk.trans h1,h2,h3,h4,h5.same hc,h6⟩
 bl:=fun b hB=>by rw [hs];exact hH.bl b hB
section
variable {G : Pg} {B : Nat → Prop}
theorem aJb {S:List Ent} {w:World} {s:St} {tmps:Array Value} (hH:HeapRel G B S w s.h) (hf:aAx B S w tmps s.t):∀ {rs:List ResultVar} {ars:List ARes} {xs:List AV},aAk (aKi G.P) rs=some ars→aA5 s ars=some xs →
  ∃ vs:List Value,(rs.mapM (fun (r:ResultVar)=>match r with
   | .tmp t=>(pure (tmps.getD t Go.undef):Sem Value)
   | .cell a t=>do loadVar t (← asAddr (tmps.getD a Go.undef)))).run G.P w=.ok vs w∧vs.length=xs.length∧∀ (j:Nat) (x:AV),xs[j]?=some x→Rep B S w (vs.toArray.getD j Go.undef) x
 | [],ars,xs,hm,hr=>by
  simp [aAk] at hm;subst hm
  simp [aA5] at hr;subst hr
  exact ⟨[],rfl,rfl,fun j x h=>by simp at h⟩
 | r::rs,ars,xs,hm,hr=>by
  unfold aAk at hm
  split at hm
  ·rename_i ar ars' e1 e2
   cases hm
   unfold aA5 at hr
   split at hr
   ·rename_i x xs' f1 f2
    cases hr
    obtain ⟨vs,k1,k2,k3⟩:=aJb hH hf e2 f2
    have one:∃ v,((match r with
      | .tmp t=>(pure (tmps.getD t Go.undef):Sem Value)
      | .cell a t=>do loadVar t (← asAddr (tmps.getD a Go.undef)))).run G.P w=.ok v w∧Rep B S w v x:=by
     cases r with
     | tmp t =>
      simp [aKi] at e1;subst e1
      simp [aA7] at f1;subst f1
      exact ⟨_,rfl,hf.getD t⟩
     | cell a t =>
      simp only [aKi] at e1
      split at e1
      ·rename_i n g h1 h2
       cases e1
       simp only [aA7] at f1
       obtain ⟨v,_,q2,ad,q3,q4⟩:=aNM hH h1 h2 (hf.getD a) f1
       refine ⟨v,?_,q2⟩
       simp only [Sem.run_bind,q3,asAddr,Sem.run_pure,Result.andThen_ok,q4]
      ·cases e1
    obtain ⟨v,o1,o2⟩:=one
    refine ⟨v::vs,?_,by simp [k2],fun j y hj => ?_⟩
    ·rw [List.mapM_cons]
     simp only [Sem.run_bind,o1,Result.andThen_ok,k1,Sem.run_pure]
    ·cases j with
     | zero=>simp at hj;subst hj;simpa using o2
     | succ j=>simpa [Array.getD] using k3 j y (by simpa using hj)
   ·cases hr
  ·cases hm
theorem aO6 {S:List Ent} {w:World} {s:St} {tmps:Array Value} {fn:Func} (hH:HeapRel G B S w s.h) (hf:aAx B S w tmps s.t) {ars:List ARes} {x:AV} (hm:aAk (aKi G.P) fn.results.toList=some ars) (hr:aA6 s ars=some x) :
  ∃ v,(results fn tmps).run G.P w=.ok v w∧Rep B S w v x:=by
 unfold aA6 at hr
 cases hx:aA5 s ars with
 | none=>simp [hx] at hr
 | some xs =>
  obtain ⟨vs,k1,k2,k3⟩:=aJb hH hf hm hx
  have hrun:(results fn tmps).run G.P w=.ok (if h:vs.toArray.size=1 then vs.toArray[0] else .tuple vs.toArray) w:=by
   unfold results
   rw [Array.mapM_eq_mapM_toList]
   simp only [Sem.run_bind,Sem.run_map]
   refine Eq.trans (congrArg (fun r=>((r.andThen fun (a:List Value) w'=>Result.ok a.toArray w').andThen fun (a:Array Value) w'=>Sem.run G.P (pure (if h:a.size=1 then a[0] else Value.tuple a)) w')) k1) ?_
   simp only [Result.andThen_ok,Sem.run_pure]
  simp only [hx] at hr
  refine ⟨_,hrun,?_⟩
  cases xs with
  | nil =>
   simp at hr;subst hr
   have:vs=[]:=List.length_eq_zero_iff.1 k2
   subst this
   simp only [List.size_toArray,List.length_nil]
   rw [dif_neg (by omega)]
   exact .tup _ _ rfl fun j x h=>by simp at h
  | cons y ys =>
   cases ys with
   | nil =>
    simp at hr;subst hr
    have h1:vs.length=1:=k2
    obtain ⟨v,rfl⟩:=List.length_eq_one_iff.1 h1
    simpa using k3 0 y rfl
   | cons z zs =>
    simp at hr;subst hr
    have h1:¬ vs.toArray.size=1:=by simp [k2]
    rw [dif_neg h1]
    exact .tup _ _ (by simp [k2]) k3
theorem aKN {S0:List Ent} {w0:World} {S:List Ent} {s:St} {tmps:Array Value} {fn:Func} {ars:List ARes} {x:AV} (hm:aAk (aKi G.P) fn.results.toList=some ars) (hr:aA6 s ars=some x) :
  ∀ (ds:List Deferred) (w:World),Evo S0 w0 S w→HeapRel G B S w s.h→aAx B S w tmps s.t→aHc S w w0.heap.size ds→LeavesInM (Fw none) 0 G.P fn tmps (Ret G B S0 w0 x s.h) ds .returning w
 | [],w,ev,hH,hf,hmk=>by
  obtain ⟨v,k1,k2⟩:=aO6 hH hf hm hr
  exact ⟨v,k1,v,S,rfl,ev,hH,k2⟩
 | d::ds,w,ev,hH,hf,hmk=>by
  obtain ⟨r,h1,h2,h3,h4⟩:=hmk.2 d (List.mem_cons_self ..)
  have hlt:r < w.heap.size:=(Array.getElem?_eq_some_iff.1 h4).1
  have hoth:∀ k,k≠r→(w.putObj r (.deferred none)).heap[k]?=w.heap[k]?:=fun k hk=>World.putObj_heap_other hk
  have hcell:∀ (ad:Addr) (y:Value),w.cell? ad=some y→(w.putObj r (.deferred none)).cell? ad=some y:=fun ad y hy=>by
   have hne:ad.block≠r:=fun e=>by
    unfold World.cell? at hy
    rw [e,h4] at hy
    simp at hy
   rw [aHJ (hoth _ hne)];exact hy
  have hne:∀ (i:Nat) (t:Ent),S[i]?=some t→t.b≠r:=fun i t ht e=>h3 (e ▸ aDc ht)
  have hH':HeapRel G B S (w.putObj r (.deferred none)) s.h:=hH.same hcell (by simp) fun i t ht=>hoth _ (hne i t ht)
  have ev':Evo S0 w0 S (w.putObj r (.deferred none)):=by
   refine ⟨ev.os,ev.tape,ev.output,by simpa using ev.size,fun b hb hn => ?_,ev.ids⟩
   obtain ⟨q1,q2⟩:=ev.keep b hb hn
   exact ⟨(hoth b (by omega)).trans q1,q2⟩
  refine ⟨by simp,.inl ⟨r,_,h1,run_takeDeferred h4,?_⟩⟩
  refine aKN hm hr ds _ ev' hH' (hf.same hcell) ⟨(List.pairwise_cons.1 hmk.1).2,fun d' hd' => ?_⟩
  obtain ⟨r',q1,q2,q3,q4⟩:=hmk.2 d' (List.mem_cons_of_mem _ hd')
  have hrr:r'≠r:=fun e=>(List.pairwise_cons.1 hmk.1).1 d' hd' (by rw [h1,q1,e])
  exact ⟨r',q1,q2,q3,(hoth r' hrr).trans q4⟩
theorem aOj {call:aAc} (hC:CallOk G call) (hmx:G.P.follows .mixedOrders=true) {g:Nat} {fn:Func} {afn:AFn} (hg:G.P.funcs[g]?=some fn) {hp:Bool} (hc:cFn G.P hp G.pu fn=some afn) {n:Nat}
  {S:List Ent} {w:World} {h h':aA0} {vs:Array Value} {args:List AV} {x:AV} (hr:aAS call n afn args h=some (x,h')) (hH:HeapRel G B S w h) (hv:aAx B S w vs args) :
  (∀ args w,(callFunc g args).run G.P w=.ok (.enter g args) w)∧CallsIn (Fw none) 0 G.P g vs w (Ret G B S w x h'):=by
 unfold cFn at hc
 split at hc
 ·cases hc
 ·rename_i hname
  split at hc
  ·rename_i c hbody
   split at hc
   ·rename_i ac ars e1 e2
    cases hc
    refine ⟨fun args w => ?_,?_⟩
    ·unfold callFunc
     have hname' : ¬ fn.name = "runtime.NumGoroutine" := by simpa using hname
     simp [go_sem]
     rw [hg]
     simp [hname',hbody]
    ·refine callsIn_of_wp_marks hg hbody trivial ?_
     simp only [aAS] at hr
     have hA:At G B S w ⟨args++List.replicate (fn.ntmps - args.length) AV.un,h⟩ { tmps:=vs++Array.replicate (fn.ntmps - vs.size) Go.undef,defers:=[] } w:=by
      refine ⟨S,Evo.refl S w,hH,?_,List.Pairwise.nil,fun d hd=>by cases hd⟩
      refine hv.append ⟨by simp [hv.1],fun j y hj => ?_⟩
      have hj1:y=AV.un:=(List.mem_replicate.1 (List.mem_of_getElem? hj)).2
      have hj2:j < fn.ntmps - vs.size:=by rw [hv.1];simpa using (List.getElem?_eq_some_iff.1 hj).1
      subst hj1
      simp only [Array.getD,Array.size_replicate,hj2,dite_true,Array.getInternal_eq_getElem,Array.getElem_replicate]
      exact .un
     have fin:∀ (s:St) (a':Act) (w':World),At G B S w s a' w'→aA6 s ars=some x→s.h=h'→LeavesInM (Fw none) 0 G.P fn a'.tmps (Ret G B S w x h') a'.defers .returning w':=by
      intro s a' w' hA' hres hh
      obtain ⟨S',ev,hH',hf',hm'⟩:=hA'
      rw [← hh]
      exact aKN e2 hres _ _ ev hH' hf' hm'
     have noR:InR S none:=fun l hl=>by cases hl
     split at hr
     ·rename_i s hs
      cases hres:aA6 s ars with
      | none=>simp [hres] at hr
      | some y =>
       simp [hres] at hr
       obtain ⟨rfl,rfl⟩:=hr
       exact aIe hC hmx noR n c e1 _ _ _ hs hA fun a' w' hA'=>fin s a' w' hA' hres rfl
     ·rename_i s hs
      cases hres:aA6 s ars with
      | none=>simp [hres] at hr
      | some y =>
       simp [hres] at hr
       obtain ⟨rfl,rfl⟩:=hr
       exact aIe hC hmx noR n c e1 _ _ _ hs hA fun a' w' hA'=>fin s a' w' hA' hres rfl
     ·cases hr
   ·cases hc
  ·cases hc
theorem aKD {S:List Ent} {w:World}:∀ {ps:List Nat} {us:List Value} {as':List AV} {tmps:Array Value} {t:List AV},us.length=as'.length→(∀ (j:Nat) (x:AV),as'[j]?=some x→∃ u,us[j]?=some u∧Rep B S w u x)→aAx B S w tmps t →
  aAx B S w ((ps.zip us).foldl (fun tm (p,v)=>tm.setIfInBounds p v) tmps) (aF9 t ps as')
 | [],us,as',tmps,t,hl,hr,hf=>by simpa [aF9] using hf
 | p::ps,[],as',tmps,t,hl,hr,hf=>by
  have:as'=[]:=List.length_eq_zero_iff.1 hl.symm
  subst this
  simpa [aF9] using hf
 | p::ps,u::us,[],tmps,t,hl,hr,hf=>by simp at hl
 | p::ps,u::us,x::as',tmps,t,hl,hr,hf=>by
  simp only [List.zip_cons_cons,List.foldl_cons,aF9]
  refine aKD (by simpa using hl) (fun j y hj => ?_) (hf.set p ?_)
  ·simpa using hr (j+1) y (by simpa using hj)
  ·obtain ⟨u',h1,h2⟩:=hr 0 x rfl
   simp at h1;subst h1;exact h2
theorem aPR {call:aAc} (hC:CallOk G call) (hmx:G.P.follows .mixedOrders=true) {n:Nat} {S:List Ent} {w:World} {h h':aA0} {vs:Array Value} {args:List AV} {i:Nat} {t:Ent} {x:AV}
  (hr:aCz call n i args h=some (x,h')) (ht:S[i]?=some t) (hH:HeapRel G B S w h) (hv:aAx B S w vs args) :
  ∃ fn tmps asg body,(Instr.yield t.b vs).run G.P w=.ok (.round t.b fn tmps asg body) w∧RoundIn (Fw none) 0 G.P t.b fn tmps asg body w (Ret G B S w x h'):=by
 unfold aCz at hr
 split at hr
 ·rename_i st pend tl ps asg body hh
  split at hr
  ·rename_i hlen
   obtain ⟨L,g1,hz,hk,g2,g3,g4,g5,g6,⟨hp,g7,g8⟩,_⟩:=aFQ hH ht hh
   have hsz:vs.size=L.params.size:=by rw [hv.1,hlen,← g6];simp
   refine ⟨_,_,_,_,run_yield g1 hsz,?_⟩
   have htm:aAx B S w ((L.params.zip vs).foldl (fun tmps (t,a)=>tmps.setIfInBounds t a) L.tmps) (aF9 tl ps args):=by
    rw [← Array.foldl_toList,Array.toList_zip,g6]
    refine aKD (by simpa using hv.1) (fun j y hj => ?_) g5
    have hj':j < vs.size:=by rw [hv.1];exact (List.getElem?_eq_some_iff.1 hj).1
    refine ⟨vs[j],by simp [hj'],?_⟩
    have:=hv.2 j y hj
    simpa [Array.getD,hj'] using this
   have hRr:InR S (some t.b):=fun l hl=>by cases hl;exact ⟨i,t,ht,rfl,hz,hk⟩
   have hA:At G B S w ⟨aF9 tl ps args,h⟩ { tmps:=(L.params.zip vs).foldl (fun tmps (t,a)=>tmps.setIfInBounds t a) L.tmps,defers:=[] } w :=
    ⟨S,Evo.refl S w,hH,htm,List.Pairwise.nil,fun d hd=>by cases hd⟩
   split at hr
   ·rename_i s hs
    refine roundIn_of_wpIn (F:=Fw none) (n:=0) trivial ?_
    refine (aLX hC hmx hRr n L.assign g7 hs hA fun a1 w1 hA1 => ?_:Code.wpIn (Fw (some t.b)) 0 G.P L.assign _ _ _)
    obtain ⟨S1,ev1,hH1,hf1,hm1⟩:=hA1
    obtain ⟨t1,ht1,_,_,h41⟩:=ev1.ids i t ht
    have:=h41 hz;subst this
    split at hr
    ·rename_i pend1 tl1 ps1 asg1 body1 hh1
     obtain ⟨L1,j1,_,_,j2,j3,j4,j5,j6,j7,j8⟩:=aFQ hH1 ht1 hh1
     obtain ⟨ev2,hH2⟩:=j8 .busy pend1 j4
     have hbeg:=run_beginRound (P:=G.P) j1 (by rw [j2];rfl)
     refine ⟨_,hbeg,?_⟩
     have e2:(w1.putObj t1.b (.loop { L1 with state:=.busy }))=w1.putObj t1.b (.loop { L1 with state:=aFp .busy,pending:=pend1.bind aBk }):=by rw [← j3];rfl
     rw [e2]
     split at hr
     ·rename_i out s2 hs2
      have hA2:At G B S w ⟨s.t,s.h.set i (.loop .busy pend1 tl1 ps1 asg1 body1)⟩ a1 (w1.putObj t1.b (.loop { L1 with state:=aFp .busy,pending:=pend1.bind aBk })) :=
       ⟨S1,ev1.trans ev2,hH2,hf1.evo ev2,hm1.evo ev2⟩
      refine (aLX hC hmx hRr n L.body g8 hs2 hA2 fun a3 w3 hA3 => ?_:Code.wpIn (Fw (some t1.b)) 0 G.P L.body _ _ _)
      obtain ⟨S3,ev3,hH3,hf3,hm3⟩:=hA3
      obtain ⟨t3,ht3,_,_,h43⟩:=ev3.ids i t1 ht
      have:=h43 hz;subst this
      split at hr
      ·rename_i st3 pend3 tl3 ps3 asg3 body3 hh3
       simp only [Option.some.injEq,Prod.mk.injEq] at hr
       obtain ⟨hx,hh'⟩:=hr
       obtain ⟨L3,l1,_,_,l2,l3,l4,l5,l6,l7,l8⟩:=aFQ hH3 ht3 hh3
       have fin:∀ (jump:Option Code) (st':LS) (pend':Option Out) (b:Bool),(∀ o,pend'=some o→o≠.normal)→jump=pend'.bind aBk→(if jump.isNone then LoopState.ready else .done)=aFp st'→jump.isNone=b →
         x=.bool b→h'=s2.h.set i (.loop st' pend' tl3 ps3 asg3 body3) →
         ∃ v w',(Instr.endRound t3.b jump).run G.P w3=.ok v w'∧Ret G B S w x h' (.returned v) w':=by
        intro jump st' pend' b q0 q1 q2 q3 q4 q5
        obtain ⟨ev4,hH4⟩:=l8 st' pend' q0
        refine ⟨_,_,run_endRound (P:=G.P) jump l1,_,S3,rfl,ev3.trans ?_,?_,?_⟩
        ·rw [q2,q1];exact ev4
        ·rw [q2,q5,q1];exact hH4
        ·rw [q3,q4];exact .bool b
       cases out with
       | normal=>exact fin none .ready none true (fun o h=>by cases h) rfl rfl rfl (by rw [← hx];rfl) (by rw [← hh'];rfl)
       | ret=>exact fin (some .ret) .done (some .ret) false (fun o h=>by cases h;simp) rfl rfl rfl (by rw [← hx];rfl) (by rw [← hh'];rfl)
       | exit id =>
        by_cases hg:id < gB
        ·rw [aCB hg]
         exact fin (some (.exit id)) .done (some (.exit id)) false (fun o h=>by cases h;simp) (by simp [aBk,hg]) rfl rfl (by rw [← hx];simp) (by rw [← hh'];simp)
        ·rw [aD8 hg]
         exact fin (some (.goto (id - gB))) .done (some (.exit id)) false (fun o h=>by cases h;simp) (by simp [aBk,hg]) rfl rfl (by rw [← hx];simp) (by rw [← hh'];simp)
      ·cases hr
     ·cases hr
    ·cases hr
   ·cases hr
  ·cases hr
 ·cases hr
end
end Go.Proofs.Yteenffomgdfocaa.Ai
