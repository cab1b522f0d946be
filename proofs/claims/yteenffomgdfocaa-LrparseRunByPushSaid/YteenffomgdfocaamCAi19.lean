/- Code: whole walks. -/
import Derived.Test.YteenffomgdfocaamCAi18
namespace Go.Proofs.Yteenffomgdfocaa.Ai
open Go Go.RowKit
set_option linter.unusedVariables false
set_option linter.unusedSimpArgs false
def aGH:Out→Exit
 | .normal=>.normal
 | .exit id=>if id < gB then .exit id else .goto (id - gB)
 | .ret=>.ret
theorem aCB {id:Nat} (h:id < gB):aGH (.exit id)=.exit id:=if_pos h
theorem aD8 {id:Nat} (h:¬ id < gB):aGH (.exit id)=.goto (id - gB):=if_neg h
section
variable {P : Program} {F : Fence} {n : Nat} {b : Frame} {a : Act} {k : List Item} {cs : List Frame} {w : World}
theorem aMX {c:Code}:step P (lone (b.atR a (.code (.scope c)::k)) cs w)=.next (lone (b.atR a (.code c::.inScope c::k)) cs w) :=
 step_lone_go (by simp [stepG,stepG.exec,Frame.atR])
theorem aKX {c:Code}:step P (lone (b.atR a (.inScope c::k)) cs w)=.next (lone (b.atR a k) cs w) :=
 step_lone_go (by simp [stepG,stepG.exec,Frame.atR])
def aGC (F:Fence) (n:Nat) (P:Program) (body:Code) (Q:Exit→Act→World→Prop):Nat→Code→Act→World→Prop
 | 0,_,_,_=>False
 | m+1,cur,a,w=>cur.wpIn F n P (fun e a w =>
   match e with
   | .goto l =>
    match findLabel body l with
    | some rest=>aGC F n P body Q m rest a w
    | none=>Q (.goto l) a w
   | e=>Q e a w) a w
theorem aIf {Q:Exit→Act→World→Prop} {c:Code} (m:Nat) (h:aGC F n P c Q m c a w):(Code.scope c).wpIn F n P Q a w:=by
 intro b k cs hro hb hr
 have key:∀ m cur a w,aGC F n P c Q m cur a w →
   ∃ e a' w',Q e a' w'∧ArrivesIn (Machine.fenced P F) P (lone (b.atR a (.code cur::.inScope c::k)) cs w) b k cs e a' w':=by
  intro m
  induction m with
  | zero=>intro cur a w h;exact h.elim
  | succ m ih =>
   intro cur a w h
   obtain ⟨e,a₁,w₁,hq,harr⟩:=h b (.inScope c::k) cs hro hb hr
   cases e with
   | normal=>exact ⟨.normal,a₁,w₁,hq,StepsIn.trans harr (.one (fenced_calm hb hr rfl) aKX)⟩
   | exit id =>
    have hx:exitTo id (.inScope c::k)=exitTo id k:=by simp [exitTo]
    exact ⟨_,a₁,w₁,hq,fun k' hk=>harr.1 k' (by rw [hx];exact hk),fun hr' hk=>harr.2 hr' (by rw [hx];exact hk)⟩
   | goto l =>
    simp only at hq
    cases hf:findLabel c l with
    | some rest =>
     rw [hf] at hq
     have hx:gotoIn l (.inScope c::k)=some (.code rest::.inScope c::k):=by simp [gotoIn,hf]
     obtain ⟨e₂,a₂,w₂,hq₂,harr₂⟩:=ih rest a₁ w₁ hq
     exact ⟨e₂,a₂,w₂,hq₂,.of_steps (harr.1 _ hx) harr₂⟩
    | none =>
     rw [hf] at hq
     have hx:gotoIn l (.inScope c::k)=gotoIn l k:=by simp [gotoIn,hf]
     exact ⟨.goto l,a₁,w₁,hq,fun k' hk=>harr.1 k' (by rw [hx];exact hk),fun hr' hk=>harr.2 hr' (by rw [hx];exact hk)⟩
   | ret=>exact ⟨_,a₁,w₁,hq,harr⟩
   | panic ch=>exact ⟨_,a₁,w₁,hq,harr⟩
   | outgrown=>exact ⟨_,a₁,w₁,hq,harr⟩
 obtain ⟨e,a',w',hq,harr⟩:=key m c a w h
 exact ⟨e,a',w',hq,.of_steps (.one (fenced_calm hb hr rfl) aMX) harr⟩
end
theorem aL2 {P:Program} {hp:Bool} {pu:Nat→Bool} (c:Code):∀ {l:Nat},aDP c=some l→∃ rest,findLabel c l=some rest∧aAA P hp pu rest=aAA P hp pu c:=by
 induction c with
 | label l' =>
  intro l h
  simp only [aDP,Option.some.injEq] at h
  subst h
  exact ⟨.skip,by simp [findLabel],by simp [aAA]⟩
 | seq x y ihx ihy =>
  intro l h
  simp only [aDP] at h
  obtain ⟨r,h1,h2⟩:=ihx h
  exact ⟨.seq r y,by simp [findLabel,h1],by simp [aAA,h2]⟩
 | _=>intro l h;simp [aDP] at h
theorem aPk (c:Code):∀ {l:Nat} {r:Code},findLabel c l=some r→l ∈ aFe c:=by
 induction c with
 | label l' =>
  intro l r h
  simp only [findLabel] at h
  split at h
  ·rename_i e
   simp only [beq_iff_eq] at e
   simp [aFe,e]
  ·cases h
 | seq x y ihx ihy =>
  intro l r h
  simp only [findLabel] at h
  cases e:findLabel x l with
  | some r1=>simp only [aFe,List.mem_append];exact .inl (ihx e)
  | none=>rw [e] at h;simp only [aFe,List.mem_append];exact .inr (ihy h)
 | _=>intro l r h;simp [findLabel] at h
theorem aEO (call:aAc) (n:Nat) (m:List Bool) (c:ACode) (s:St):aA1 call n (.seq (.kill m) c) s=aA1 call n c ⟨aAz m s.t,s.h⟩:=by simp only [aA1]
theorem aGV {f:St→Option (Out × St)} {p:Nat→Prop} (hf:∀ s j s',f s=some (.exit j,s')→p j):∀ m s j s',aAj f m s=some (.exit j,s')→p j
 | 0,s,j,s',h=>by simp [aAj] at h
 | m+1,s,j,s',h=>by
  simp only [aAj] at h
  cases e:f s with
  | none=>simp [e] at h
  | some r =>
   obtain ⟨o,s1⟩:=r
   simp only [e] at h
   cases o with
   | normal=>exact aGV hf m _ _ _ h
   | exit i=>simp at h;obtain ⟨rfl,rfl⟩:=h;exact hf _ _ _ e
   | ret=>simp at h
theorem aOe {call:aAc} {n:Nat} {x:ACode} {M:List Bool} {p:Nat→Prop} (hf:∀ s j s',aA1 call n x s=some (.exit j,s')→p j):∀ s j s',aA1 call n (.seq x (.kill M)) s=some (.exit j,s')→p j:=fun s j s' h=>by
 simp only [aA1] at h
 cases e:aA1 call n x s with
 | none=>simp [e] at h
 | some r =>
  obtain ⟨o,s1⟩:=r
  simp only [e] at h
  cases o with
  | normal=>simp at h
  | exit i=>simp at h;obtain ⟨rfl,rfl⟩:=h;exact hf _ _ _ e
  | ret=>simp at h
theorem aGJ (call:aAc) (n id:Nat) (c:ACode) (s:St):aA1 call n (.block id c) s=match aA1 call n c s with | some (.exit j,s)=>if j=id then some (.normal,s) else some (.exit j,s) | r=>r:=by
 simp only [aA1]
 cases aA1 call n c s with
 | none=>rfl
 | some r =>
  obtain ⟨o,s⟩:=r
  cases o <;> rfl
theorem aHi (call:aAc) (n:Nat) (c:ACode) (s:St):aA1 call n (.loop c) s=aAj (aA1 call n c) n s:=by simp only [aA1]
theorem aQM {call:aAc} {n:Nat} {X:ACode} {M M':List Bool} {gl g:Nat} (hg:g≠gl) (s:St):aA1 call n (.seq (.block gl (.seq X (.seq (.kill M') (.exit g)))) (.kill M)) s =
  match aA1 call n X s with
  | none=>none
  | some (.normal,s1)=>some (.exit g,⟨aAz M' s1.t,s1.h⟩)
  | some (.exit j,s1)=>if j=gl then some (.normal,⟨aAz M s1.t,s1.h⟩) else some (.exit j,s1)
  | some (.ret,s1)=>some (.ret,s1):=by
 simp only [aA1]
 cases e:aA1 call n X s with
 | none=>simp
 | some r =>
  obtain ⟨o,s1⟩:=r
  cases o with
  | normal=>simp [hg]
  | exit j =>
   by_cases hj:j=gl
   ·simp [hj]
   ·simp [hj]
  | ret=>simp
theorem noG {P:Program} {hp:Bool} {pu:Nat→Bool} {call:aAc} (n:Nat) (c:Code):aBw c=true→∀ {ac:ACode},aAA P hp pu c=some ac→∀ (nt:Nat) (lv:Lv) (lo:Nat) (s:St) (j:Nat) (s':St),aA1 call n (kc nt ac lv lo) s=some (.exit j,s')→j < 2*gB:=by
 induction c with
 | skip =>
  intro _ ac hc nt lv lo s j s' hr
  simp [aAA] at hc;subst hc
  simp [kc,aA1] at hr
 | label l =>
  intro _ ac hc nt lv lo s j s' hr
  simp [aAA] at hc;subst hc
  simp [kc,aA1] at hr
 | region id ops draw =>
  intro _ ac hc nt lv lo s j s' hr
  unfold aAA at hc
  split at hc
  ·split at hc
   ·split at hc
    ·cases hc
     simp only [kc,aA1,Option.map_eq_some_iff] at hr
     obtain ⟨_,_,e⟩:=hr
     cases e
    ·cases hc
   ·cases hc
    simp only [kc,aA1,Option.map_eq_some_iff] at hr
    obtain ⟨_,_,e⟩:=hr
    cases e
  ·cases hc
 | seq x y ihx ihy =>
  intro hn ac hc nt lv lo s j s' hr
  simp only [aBw,Bool.and_eq_true] at hn
  unfold aAA at hc
  split at hc
  ·rename_i ax ay e1 e2
   cases hc
   simp only [kc,aA1] at hr
   split at hr
   ·exact ihy hn.2 e2 _ _ _ _ _ _ hr
   ·exact ihx hn.1 e1 _ _ _ _ _ _ hr
  ·cases hc
 | cond x p q ihp ihq =>
  intro hn ac hc nt lv lo s j s' hr
  simp only [aBw,Bool.and_eq_true] at hn
  unfold aAA at hc
  split at hc
  ·rename_i ax ap aq e1 e2 e3
   cases hc
   simp only [kc,aA1] at hr
   split at hr
   ·exact ihp hn.1 e2 _ _ _ _ _ _ hr
   ·exact ihq hn.2 e3 _ _ _ _ _ _ hr
   ·cases hr
  ·cases hc
 | block id x ihx =>
  intro hn ac hc nt lv lo s j s' hr
  simp only [aBw] at hn
  simp only [aAA] at hc
  split at hc
  ·cases e1:aAA P hp pu x with
   | none=>simp [e1] at hc
   | some ax =>
    simp [e1] at hc;subst hc
    simp only [kc,aA1] at hr
    split at hr
    ·rename_i i s1 h1
     split at hr
     ·cases hr
     ·cases hr;exact ihx hn e1 _ _ _ _ _ _ h1
    ·rename_i r hne
     exact absurd hr (hne _ _)
  ·cases hc
 | loop x ihx =>
  intro hn ac hc nt lv lo s j s' hr
  simp only [aBw] at hn
  simp only [aAA] at hc
  cases e1:aAA P hp pu x with
  | none=>simp [e1] at hc
  | some ax =>
   simp [e1] at hc;subst hc
   simp only [kc] at hr
   rw [aEO] at hr
   simp only [aA1] at hr
   exact aGV (fun s j s' h=>aOe (fun s j s' h=>ihx hn e1 _ _ _ _ _ _ h) s j s' (by simpa only [aA1] using h)) _ _ _ _ hr
 | scope x ihx =>
  intro hn ac hc nt lv lo s j s' hr
  simp only [aBw] at hn
  unfold aAA at hc
  split at hc
  ·rename_i l hl
   split at hc
   ·cases e1:aAA P hp pu x with
    | none=>simp [e1] at hc
    | some ax =>
     simp [e1] at hc;subst hc
     simp only [kc] at hr
     rw [aGJ,aEO,aHi] at hr
     split at hr
     ·rename_i i s1 h1
      split at hr
      ·cases hr
      ·rename_i hji
       cases hr
       refine Classical.byContradiction fun hb=>hji ?_
       refine (aGV (p:=fun j=>j < 2*gB∨j=2*gB+l) (fun s j s' h => ?_) _ _ _ _ h1).resolve_left hb
       simp only [if_true] at h
       rw [aQM (by omega)] at h
       split at h
       ·cases h
       ·cases h;exact .inr rfl
       ·rename_i j2 s2 h2
        split at h
        ·cases h
        ·cases h;exact .inl (ihx hn e1 _ _ _ _ _ _ h2)
       ·cases h
     ·rename_i r hne
      exact absurd hr (hne _ _)
   ·cases hc
  ·cases hc
 | exit id =>
  intro _ ac hc nt lv lo s j s' hr
  simp only [aAA] at hc
  split at hc
  ·rename_i hid
   cases hc
   simp only [kc] at hr
   split at hr
   ·simp [aA1] at hr;omega
   ·simp [aA1] at hr;omega
  ·cases hc
 | goto l =>
  intro _ ac hc nt lv lo s j s' hr
  simp only [aAA] at hc
  split at hc
  ·rename_i hid
   cases hc
   simp only [kc] at hr
   split at hr
   ·simp [aA1] at hr;omega
   ·simp [aA1] at hr;omega
  ·cases hc
 | ret =>
  intro _ ac hc nt lv lo s j s' hr
  simp [aAA] at hc;subst hc
  simp only [kc] at hr
  split at hr <;> simp [aA1] at hr
 | rangeFunc g ps asg body iha ihb=>intro hn;simp [aBw] at hn
 | refuse w=>intro _ ac hc;simp [aAA] at hc
def InR (S0:List Ent) (ro:Option Nat):Prop:=∀ l,ro=some l→∃ (i:Nat) (t:Ent),S0[i]?=some t∧t.b=l∧t.sz=0∧t.K=1
section
variable {G : Pg} {B : Nat → Prop}
theorem Evo.alloc0 (S:List Ent) (w:World) (o:Obj):Evo S w S (w.alloc o) :=
 ⟨rfl,rfl,rfl,by rw [aBo];omega,fun b hb hn=>⟨heap_alloc_old w o b hb,hn⟩,fun i t h=>⟨t,h,Nat.le_refl _,fun _=>rfl,fun _=>rfl⟩⟩
theorem HeapRel.alloc0 {S:List Ent} {w:World} {h:aA0} (hH:HeapRel G B S w h) (o:Obj):HeapRel G B S (w.alloc o) h :=
 hH.step (Evo.alloc0 S w o) hH.len hH.inj (fun i t ht=>by have:=hH.lt i t ht;exact ⟨by rw [aBo];omega,this.2⟩) fun i t ob ht ho=>.inl ⟨ht,ho,heap_alloc_old w o _ (hH.lt i t ht).1⟩
theorem aQi {S:List Ent} {w:World} {h:aA0} (hH:HeapRel G B S w h) {i:Nat} {t:Ent} (ht:S[i]?=some t) (hz:t.sz=0) (hk:t.K=1) :
  ∃ st pend tl ps asg body,h[i]?=some (.loop st pend tl ps asg body):=by
 have hi:i < h.length:=by rw [← hH.len];exact (List.getElem?_eq_some_iff.1 ht).1
 have hh:h[i]?=some h[i]:=by simp [hi]
 have:=hH.obj i t _ ht hh
 cases ho:h[i] with
 | arr v sz x l=>rw [ho] at this;obtain ⟨_,h2,h3,_⟩:=this;omega
 | map l=>rw [ho] at this;obtain ⟨_,h2,_⟩:=this;omega
 | loop st pend tl ps asg body=>exact ⟨st,pend,tl,ps,asg,body,by rw [hh,ho]⟩
theorem aFQ {S:List Ent} {w:World} {h:aA0} (hH:HeapRel G B S w h) {i:Nat} {t:Ent} (ht:S[i]?=some t) {st:LS} {pend:Option Out} {tl:List AV} {ps:List Nat} {asg body:ACode} (hh:h[i]?=some (.loop st pend tl ps asg body)) :
  ∃ L:Loop,w.heap[t.b]?=some (.loop L)∧t.sz=0∧t.K=1∧L.state=aFp st∧L.pending=pend.bind aBk∧(∀ o,pend=some o→o≠.normal)∧aAx B S w L.tmps tl∧L.params.toList=ps ∧
   (∃ hp,aHe G hp L.assign asg∧aHe G hp L.body body) ∧
   ∀ (st':LS) (pend':Option Out),(∀ o,pend'=some o→o≠.normal)→Evo S w S (w.putObj t.b (.loop { L with state:=aFp st',pending:=pend'.bind aBk })) ∧
    HeapRel G B S (w.putObj t.b (.loop { L with state:=aFp st',pending:=pend'.bind aBk })) (h.set i (.loop st' pend' tl ps asg body)):=by
 obtain ⟨h0,hk0,L,hp,h1,h2,h3,h4,h5,h6,h7,h8⟩:=hH.obj i t _ ht hh
 refine ⟨L,h1,h0,hk0,h2,h3,h4,h5,h6,⟨hp,h7,h8⟩,fun st' pend' hp' => ?_⟩
 have hlt:t.b < w.heap.size:=(Array.getElem?_eq_some_iff.1 h1).1
 have hk:∀ k,k≠t.b→(w.putObj t.b (.loop { L with state:=aFp st',pending:=pend'.bind aBk })).heap[k]?=w.heap[k]?:=fun k hk=>World.putObj_heap_other hk
 have ev:Evo S w S (w.putObj t.b (.loop { L with state:=aFp st',pending:=pend'.bind aBk })):=Evo.write rfl rfl rfl (by simp) t.b (aDc ht) hk
 exact HeapRel.write (w':=w.putObj t.b (.loop { L with state:=aFp st',pending:=pend'.bind aBk })) hH rfl rfl rfl (by simp) ht hk (.loop st' pend' tl ps asg body) ⟨h0,hk0,_,hp,World.putObj_heap_same hlt,rfl,rfl,hp',h5.evo ev,h6,h7,h8⟩
variable {S0 : List Ent} {w0 : World} {call : aAc} {hp : Bool} {ro : Option Nat}
theorem aL8 (call:aAc) (n:Nat) (m:List Bool) (c:ACode) (s:St):aA1 call n (.seq (.kill m) c) s=aA1 call n c ⟨aAz m s.t,s.h⟩:=by simp only [aA1]
def aFI (G:Pg) (B:Nat→Prop) (S0:List Ent) (w0:World) (call:aAc) (hp:Bool) (ro:Option Nat) (n:Nat) (c:Code):Prop:=∀ {ac:ACode},aAA G.P hp G.pu c=some ac→∀ (nt:Nat) (lv:Lv) (lo:Nat) {Q:Exit→Act→World→Prop} {s s':St} {out:Out} {a:Act} {w:World},
  aA1 call n (kc nt ac lv lo) s=some (out,s')→At G B S0 w0 s a w→(∀ a' w',At G B S0 w0 s' a' w'→Q (aGH out) a' w')→c.wpIn (Fw ro) 0 G.P Q a w
theorem aPm (n:Nat):aFI G B S0 w0 call hp ro n .skip:=by
 intro ac hc nt lv lo Q s s' out a w hr hA hQ
 simp [aAA] at hc;subst hc
 simp [kc,aA1] at hr;obtain ⟨rfl,rfl⟩:=hr
 exact wpIn_skip (hQ a w hA)
theorem aM0 {n:Nat} {x y:Code} (ihx:aFI G B S0 w0 call hp ro n x) (ihy:aFI G B S0 w0 call hp ro n y):aFI G B S0 w0 call hp ro n (.seq x y):=by
 intro ac hc nt lv lo Q s s' out a w hr hA hQ
 unfold aAA at hc
 split at hc
 ·rename_i ax ay e1 e2
  cases hc
  simp only [kc,aA1] at hr
  refine wpIn_seq ?_
  split at hr
  ·rename_i s1 h1
   exact ihx e1 _ _ _ h1 hA fun a' w' hA'=>ihy e2 _ _ _ hr hA' hQ
  ·rename_i r hne
   refine ihx e1 _ _ _ hr hA fun a' w' hA' => ?_
   cases out with
   | normal=>exact (hne s' hr).elim
   | exit j =>
    have h:=hQ a' w' hA'
    by_cases hj:j < gB
    ·rw [aCB hj] at h ⊢;exact h
    ·rw [aD8 hj] at h ⊢;exact h
   | ret=>exact hQ a' w' hA'
 ·cases hc
theorem aKE {n:Nat} {x:Code} {l:Nat} {ax:ACode} {rest:Code} (gr:∀ l rest,findLabel x l=some rest→aFI G B S0 w0 call hp ro n rest) (e1:aAA G.P hp G.pu x=some ax) (hnr:aBw x=true) (hr1:findLabel x l=some rest) (hr2:aAA G.P hp G.pu rest=aAA G.P hp G.pu x) (other:∀ l',l'≠l→findLabel x l'=none)
  (nt:Nat) (lv1:Lv) (lo1:Nat) (M' M:List Bool) {Q:Exit→Act→World→Prop}:∀ (m:Nat) (s:St) (a:Act) (w:World) (cur:Code) (o1:Out) (s1:St),aFI G B S0 w0 call hp ro n cur→aAA G.P hp G.pu cur=some ax →
   aAj (aA1 call n (.seq (.block (gB+l) (.seq (kc nt ax lv1 lo1) (.seq (.kill M') (.exit (2*gB+l))))) (.kill M))) m s=some (o1,s1)→At G B S0 w0 s a w →
   (o1=.exit (2*gB+l)→∀ a' w',At G B S0 w0 s1 a' w'→Q .normal a' w')→(∀ j,o1=.exit j→j≠2*gB+l→∀ a' w',At G B S0 w0 s1 a' w'→Q (aGH (.exit j)) a' w')→(o1=.ret→∀ a' w',At G B S0 w0 s1 a' w'→Q .ret a' w') →
   aGC (Fw ro) 0 G.P x Q m cur a w:=by
 intro m
 induction m with
 | zero=>intro s a w cur o1 s1 _ _ h;simp [aAj] at h
 | succ m ih =>
  intro s a w cur o1 s1 hg hcur h hA q1 q2 q3
  simp only [aAj] at h
  have hne0:(2*gB+l)≠(gB+l):=by have:gB=1048576:=rfl;omega
  rw [aQM hne0] at h
  unfold aGC
  cases hX:aA1 call n (kc nt ax lv1 lo1) s with
  | none=>simp [hX] at h
  | some r =>
   obtain ⟨o,s2⟩:=r
   simp only [hX] at h
   refine hg hcur nt lv1 lo1 hX hA fun a' w' hA' => ?_
   cases o with
   | normal =>
    simp at h
    obtain ⟨rfl,rfl⟩:=h
    exact q1 rfl a' w' (hA'.kill M')
   | ret =>
    simp at h
    obtain ⟨rfl,rfl⟩:=h
    exact q3 rfl a' w' hA'
   | exit j =>
    by_cases hj:j=gB+l
    ·subst hj
     simp at h
     rw [aD8 (by omega),Nat.add_sub_cancel_left]
     simp only [hr1]
     exact ih _ _ _ rest o1 s1 (gr l rest hr1) (hr2.trans e1) h (hA'.kill M) q1 q2 q3
    ·simp [hj] at h
     obtain ⟨rfl,rfl⟩:=h
     have hb:=noG n x hnr e1 nt lv1 lo1 s j _ hX
     have q:=q2 j rfl (by omega) a' w' hA'
     by_cases hlt:j < gB
     ·rw [aCB hlt] at q ⊢;exact q
     ·rw [aD8 hlt] at q ⊢
      have hne:j - gB≠l:=by omega
      simp only [other _ hne]
      exact q
theorem aPx (hC:CallOk G call) (hmx:G.P.follows .mixedOrders=true) (hR:InR S0 ro) (n:Nat) (c:Code):aFI G B S0 w0 call hp ro n c∧∀ l rest,findLabel c l=some rest→aFI G B S0 w0 call hp ro n rest:=by
 induction c with
 | skip =>
  refine ⟨?_,fun l rest h=>by simp [findLabel] at h⟩
  intro ac hc nt lv lo Q s s' out a w hr hA hQ
  simp [aAA] at hc;subst hc
  simp [kc,aA1] at hr;obtain ⟨rfl,rfl⟩:=hr
  exact wpIn_skip (hQ a w hA)
 | region id ops draw =>
  refine ⟨?_,fun l rest h=>by simp [findLabel] at h⟩
  intro ac hc nt lv lo Q s s' out a w hr hA hQ
  unfold aAA at hc
  split at hc
  ·rename_i l hl
   split at hc
   ·rename_i hd
    split at hc
    ·cases hc
     simp only [kc,aA1] at hr
     generalize he:aAK (fun i=>aAw call (l.getD i default)) (ops.toList.map aAY) (aEK (aI6 G.pu l)) s.h.length (ops.toList.map aAY).length (List.replicate (ops.toList.map aAY).length false) s=e at hr
     cases e with
     | none=>simp at hr
     | some u =>
      simp at hr;obtain ⟨rfl,rfl⟩:=hr
      simp only [Bool.and_eq_true] at hd
      rw [hd.1]
      exact aQt hC hmx hl hQ he hA id
    ·cases hc
   ·rename_i hd
    cases hc
    simp only [kc,aA1] at hr
    cases e:aAJ call l s with
    | none=>simp [e] at hr
    | some u =>
     simp [e] at hr;obtain ⟨rfl,rfl⟩:=hr
     cases draw with
     | false=>exact aP9 hC hl hQ e hA id
     | true=>exact aRw hC hmx hl (by simpa using hd) hQ e hA id
  ·cases hc
 | seq x y ihx ihy =>
  refine ⟨aM0 ihx.1 ihy.1,fun l rest h => ?_⟩
  simp only [findLabel] at h
  cases e:findLabel x l with
  | some r=>rw [e] at h;cases h;exact aM0 (ihx.2 l r e) ihy.1
  | none=>rw [e] at h;exact ihy.2 l rest h
 | cond x p q ihp ihq =>
  refine ⟨?_,fun l rest h=>by simp [findLabel] at h⟩
  intro ac hc nt lv lo Q s s' out a w hr hA hQ
  unfold aAA at hc
  split at hc
  ·rename_i ax ap aq e1 e2 e3
   cases hc
   simp only [kc,aA1] at hr
   obtain ⟨S,e0,hH,hf,hm⟩:=hA
   have hx:=aAC e1 hf
   split at hr
   ·rename_i hb
    rw [hb] at hx
    exact wpIn_cond_true hx.bool_inv (ihp.1 e2 _ _ _ hr ⟨S,e0,hH,hf,hm⟩ hQ)
   ·rename_i hb
    rw [hb] at hx
    exact wpIn_cond_false hx.bool_inv (ihq.1 e3 _ _ _ hr ⟨S,e0,hH,hf,hm⟩ hQ)
   ·cases hr
  ·cases hc
 | block id x ihx =>
  refine ⟨?_,fun l rest h=>by simp [findLabel] at h⟩
  intro ac hc nt lv lo Q s s' out a w hr hA hQ
  simp only [aAA] at hc
  split at hc
  ·rename_i hid
   cases e1:aAA G.P hp G.pu x with
   | none=>simp [e1] at hc
   | some ax =>
    simp [e1] at hc;subst hc
    simp only [kc,aA1] at hr
    refine wpIn_block ?_
    split at hr
    ·rename_i j s1 h1
     refine ihx.1 e1 _ _ _ h1 hA fun a' w' hA' => ?_
     split at hr
     ·rename_i hj
      cases hr
      have h:=hQ a' w' hA'
      rw [aCB (by omega)]
      simp only [Exit.inBlock]
      rw [if_pos hj]
      exact h
     ·rename_i hj
      cases hr
      have h:=hQ a' w' hA'
      by_cases hg:j < gB
      ·rw [aCB hg] at h ⊢
       simp only [Exit.inBlock]
       rw [if_neg hj]
       exact h
      ·rw [aD8 hg] at h ⊢
       exact h
    ·rename_i r hne
     refine ihx.1 e1 _ _ _ hr hA fun a' w' hA' => ?_
     cases out with
     | normal=>exact hQ a' w' hA'
     | exit j=>exact (hne j s' hr).elim
     | ret=>exact hQ a' w' hA'
  ·cases hc
 | loop x ihx =>
  refine ⟨?_,fun l rest h=>by simp [findLabel] at h⟩
  intro ac hc nt lv lo Q s s' out a w hr hA hQ
  simp only [aAA] at hc
  cases e1:aAA G.P hp G.pu x with
  | none=>simp [e1] at hc
  | some ax =>
   simp [e1] at hc;subst hc
   simp only [kc] at hr
   obtain ⟨H,hH⟩:∃ H,H=aBO ax lv 0:=⟨_,rfl⟩
   rw [← hH] at hr
   have key:∀ (m:Nat) (s:St) (a:Act) (w:World),aAj (aA1 call n (.seq (kc nt ax { lv with inl:=true } H) (.kill (aDi nt H)))) m s=some (out,s')→At G B S0 w0 s a w→Code.roundsIn (Fw ro) 0 G.P x Q m a w:=by
    intro m
    induction m with
    | zero=>intro s a w h hA;simp [aAj] at h
    | succ m ih =>
     intro s a w h hA
     rw [roundsIn_succ]
     simp only [aAj,aA1] at h
     cases hb:aA1 call n (kc nt ax { lv with inl:=true } H) s with
     | none=>simp [hb] at h
     | some r =>
      obtain ⟨o1,s1⟩:=r
      simp only [hb] at h
      refine ihx.1 e1 _ _ _ hb hA fun a' w' hA' => ?_
      cases o1 with
      | normal=>exact ih _ a' w' h (hA'.kill _)
      | exit j =>
       simp at h;obtain ⟨rfl,rfl⟩:=h
       have h:=hQ a' w' hA'
       by_cases hg:j < gB
       ·rw [aCB hg] at h ⊢;exact h
       ·rw [aD8 hg] at h ⊢;exact h
      | ret=>simp at h;obtain ⟨rfl,rfl⟩:=h;exact hQ a' w' hA'
   simp only [aA1] at hr
   exact wpIn_loop_rounds n (key n _ a w (by simpa only [aA1] using hr) (hA.kill _))
 | exit id =>
  refine ⟨?_,fun l rest h=>by simp [findLabel] at h⟩
  intro ac hc nt lv lo Q s s' out a w hr hA hQ
  simp only [aAA] at hc
  split at hc
  ·rename_i hid
   cases hc
   simp only [kc] at hr
   split at hr
   ·simp [aA1] at hr;obtain ⟨rfl,rfl⟩:=hr
    have h:=hQ a w (hA.kill _)
    rw [aCB hid] at h
    exact wpIn_exit h
   ·simp [aA1] at hr;obtain ⟨rfl,rfl⟩:=hr
    have h:=hQ a w hA
    rw [aCB hid] at h
    exact wpIn_exit h
  ·cases hc
 | label l =>
  refine ⟨?_,fun l' rest h=>by
   simp only [findLabel] at h
   split at h
   ·cases h;exact aPm n
   ·cases h⟩
  intro ac hc nt lv lo Q s s' out a w hr hA hQ
  simp [aAA] at hc;subst hc
  simp [kc,aA1] at hr;obtain ⟨rfl,rfl⟩:=hr
  exact wpIn_label (hQ a w hA)
 | goto l =>
  refine ⟨?_,fun l rest h=>by simp [findLabel] at h⟩
  intro ac hc nt lv lo Q s s' out a w hr hA hQ
  simp only [aAA] at hc
  split at hc
  ·rename_i hid
   cases hc
   have e:aGH (.exit (gB+l))=.goto l:=by rw [aD8 (by omega),Nat.add_sub_cancel_left]
   simp only [kc] at hr
   split at hr
   ·simp [aA1] at hr;obtain ⟨rfl,rfl⟩:=hr
    have h:=hQ a w (hA.kill _)
    rw [e] at h
    exact wpIn_goto h
   ·simp [aA1] at hr;obtain ⟨rfl,rfl⟩:=hr
    have h:=hQ a w hA
    rw [e] at h
    exact wpIn_goto h
  ·cases hc
 | scope x ihx =>
  refine ⟨?_,fun l rest h=>by simp [findLabel] at h⟩
  intro ac hc nt lv lo Q s s' out a w hr hA hQ
  unfold aAA at hc
  split at hc
  ·rename_i l hl
   split at hc
   ·rename_i hcond
    obtain ⟨hnr,hlg,hlab⟩:=hcond
    cases e1:aAA G.P hp G.pu x with
    | none=>simp [e1] at hc
    | some ax =>
     simp [e1] at hc;subst hc
     obtain ⟨rest,hr1,hr2⟩:=aL2 (P:=G.P) (hp:=hp) (pu:=G.pu) x hl
     have other:∀ l',l'≠l→findLabel x l'=none:=fun l' hne=>by
      cases e:findLabel x l' with
      | none=>rfl
      | some r =>
       have:=List.all_eq_true.1 hlab l' (aPk x e)
       simp at this
       exact absurd this hne
     simp only [kc,if_true] at hr
     rw [aGJ,aEO,aHi] at hr
     have hg:(2*gB+l)≠(gB+l):=by omega
     refine aIf n ?_
     split at hr
     ·rename_i j s1 h1
      refine aKE ihx.2 e1 hnr hr1 hr2 other _ _ _ _ _ n _ _ _ x _ _ ihx.1 e1 h1 (hA.kill _) (fun he a' w' hA' => ?_) (fun i he hne a' w' hA' => ?_) (fun he=>by cases he)
      ·cases he
       rw [if_pos rfl] at hr
       cases hr
       exact hQ a' w' hA'
      ·cases he
       rw [if_neg hne] at hr
       cases hr
       exact hQ a' w' hA'
     ·rename_i r hne
      refine aKE ihx.2 e1 hnr hr1 hr2 other _ _ _ _ _ n _ _ _ x _ _ ihx.1 e1 hr (hA.kill _) (fun he => ?_) (fun i he => ?_) (fun he a' w' hA' => ?_)
      ·exact absurd hr (by rw [he];exact hne _ _)
      ·exact absurd hr (by rw [he];exact hne _ _)
      ·subst he;exact hQ a' w' hA'
   ·cases hc
  ·cases hc
 | ret =>
  refine ⟨?_,fun l rest h=>by simp [findLabel] at h⟩
  intro ac hc nt lv lo Q s s' out a w hr hA hQ
  simp [aAA] at hc;subst hc
  simp only [kc] at hr
  split at hr
  ·simp [aA1] at hr;obtain ⟨rfl,rfl⟩:=hr
   exact wpIn_ret (hQ a w (hA.kill _))
  ·simp [aA1] at hr;obtain ⟨rfl,rfl⟩:=hr
   exact wpIn_ret (hQ a w hA)
 | rangeFunc g ps asg body iha ihb =>
  refine ⟨?_,fun l rest h=>by simp [findLabel] at h⟩
  intro ac hc nt lv lo Q s s' out a w hr hA hQ
  unfold aAA at hc
  split at hc
  ·rename_i af aasg0 abody0 e1 e2' e3'
   cases hc
   simp only [kc] at hr
   rw [aL8] at hr
   obtain ⟨HA,hHA⟩:∃ H,H=aBO aasg0 lv (aBO abody0 lv 0):=⟨_,rfl⟩
   rw [← hHA] at hr
   replace hA:=hA.kill (aDi nt (aEA af.rd ||| lo ||| HA))
   revert hr hA
   generalize (⟨aAz (aDi nt (aEA af.rd ||| lo ||| HA)) s.t,s.h⟩:St)=s
   intro hr hA
   simp only [aA1] at hr
   obtain ⟨aasg,hasg⟩:∃ x,x=ACode.seq (.kill (aDi nt HA)) (kc nt aasg0 lv (aBO abody0 lv 0)):=⟨_,rfl⟩
   obtain ⟨abody,hbody⟩:∃ x,x=ACode.seq (kc nt abody0 { lv with inl:=true } HA) (.kill (aDi nt (ps.toList.foldr (fun p s=>aMb s p) HA))):=⟨_,rfl⟩
   rw [← hasg,← hbody] at hr
   have e2:aHe G hp asg aasg:=⟨_,[],aasg0,nt,lv,_,e2',.inl hasg⟩
   have e3:aHe G hp body abody:=⟨[],_,abody0,nt,_,_,e3',.inr hbody⟩
   obtain ⟨S,e0,hH,hf,hm⟩:=hA
   have hg:=aAC e1 hf
   split at hr
   ·rename_i gf first caps ef
    rw [ef] at hg
    obtain ⟨v1,v2,eg,r1,r2⟩:=hg.fn_inv
    split at hr
    ·rename_i xr h3 hcall
     split at hr
     ·rename_i st pend tl ps' asg' body' hh3
      split at hr
      ·cases hr
      ·rename_i hbusy
       cases hr
       refine wpIn_rangeFunc fun fn _ => ?_
       -- entering
       have enter:∃ (mark:List Deferred) (dfr:Nat) (wd:World),Evo S w S wd∧HeapRel G B S wd s.h∧(∀ S' w',Evo S wd S' w'→aHc S' w' w0.heap.size (mark++a.defers)) ∧
         (Instr.enterLoop fn a.tmps ps asg body ro).run G.P w=.ok (wd.heap.size,mark) (wd.alloc (.loop { state:=.ready,pending:=none,fn,tmps:=a.tmps,params:=ps,assign:=asg,body:=body,defers:=dfr })):=by
        cases ro with
        | none =>
         have ev:=Evo.alloc0 S w (.deferred (some []))
         refine ⟨[{ target := .collected w.heap.size, args := #[] }], w.heap.size, w.alloc (.deferred (some [])), ev, hH.alloc0 _, fun S' w' ev' => ?_, ?_⟩
         ·have hm':=(hm.evo ev).evo ev'
          have hnew:(w.alloc (.deferred (some []))).heap[w.heap.size]?=some (.deferred (some [])):=heap_alloc_new w _
          have hnot:w.heap.size ∉ aBx S:=fun hb=>by
           obtain ⟨u,hu1,hu2⟩:=List.mem_map.1 hb
           obtain ⟨j,hj⟩:=List.getElem?_of_mem hu1
           have:=(hH.lt j u hj).1;omega
          obtain ⟨k1,k2⟩:=ev'.keep w.heap.size (by rw [aBo];omega) hnot
          refine ⟨List.pairwise_cons.2 ⟨fun d hd he => ?_,hm'.1⟩,fun d hd => ?_⟩
          ·obtain ⟨r,q1,q2,q3,q4⟩:=hm.2 d hd
           rw [q1] at he
           cases he
           have:=(Array.getElem?_eq_some_iff.1 q4).1
           omega
          ·rcases List.mem_cons.1 hd with rfl | hd
           ·exact ⟨w.heap.size,rfl,e0.size,k2,k1.trans hnew⟩
           ·exact hm'.2 d hd
         ·rw [run_enterLoop_outer];simp [aBo]
        | some l₀ =>
         obtain ⟨i,t,ht,rfl,hz,hk⟩:=hR l₀ rfl
         obtain ⟨t',ht',_,_,h4⟩:=e0.ids i t ht
         have:=h4 hz;subst this
         obtain ⟨_,_,_,_,_,_,hloop⟩:=aQi hH ht' hz hk
         obtain ⟨L,hL,_⟩:=aFQ hH ht' hloop
         exact ⟨[],L.defers,w,Evo.refl S w,hH,fun S' w' ev'=>by simpa using hm.evo ev',by unfold Instr.enterLoop;simp only [Sem.run_bind,run_getLoop hL,run_newObj_alloc,Result.andThen,Sem.run_pure]⟩
       obtain ⟨mark,dfr,wd,ev1,hH1,hm1,hrun⟩:=enter
       let L0:Loop:={ state:=.ready,pending:=none,fn,tmps:=a.tmps,params:=ps,assign:=asg,body:=body,defers:=dfr }
       let te:Ent:=⟨wd.heap.size,0,0,0,1⟩
       have ev2:Evo S wd (S++[te]) (wd.alloc (.loop L0)):=Evo.alloc S wd _ te (Nat.le_refl _)
       have hf2:aAx B (S++[te]) (wd.alloc (.loop L0)) a.tmps s.t:=(hf.evo ev1).evo ev2
       have hH2:HeapRel G B (S++[te]) (wd.alloc (.loop L0)) (s.h++[.loop .ready none s.t ps.toList aasg abody]) :=
        hH1.alloc _ te _ rfl ⟨rfl,rfl,L0,hp,heap_alloc_new wd _,rfl,rfl,(fun o h=>by cases h),hf2,rfl,e2,e3⟩
       have hte:(S++[te])[s.h.length]?=some te:=by rw [← hH.len];simp
       have hy : Rep B (S ++ [te]) (wd.alloc (.loop L0)) (.func (.yield wd.heap.size) #[] #[]) (.fn (.yield s.h.length) [] []) := .yield s.h.length te hte rfl
       obtain ⟨k1,k2⟩:=hC.fn B (S++[te]) (wd.alloc (.loop L0)) _ _ _ gf xr h3 hcall hH2 ((((r1.evo ev1).evo ev2).append (aAx.single hy)).append ((r2.evo ev1).evo ev2))
       refine ⟨wd.heap.size, mark, wd.alloc (.loop L0), { target := .fn (.func gf) v2, args := v1 ++ #[.func (.yield wd.heap.size) #[] #[]] }, wd.alloc (.loop L0), gf, v1 ++ #[.func (.yield wd.heap.size) #[] #[]] ++ v2, wd.alloc (.loop L0), hrun, ?_, fun _ _ => trivial, ?_, fun h => by simp at h, ?_⟩
       ·have hev : a.eval (.const (.func (.yield wd.heap.size) #[] #[])) = .func (.yield wd.heap.size) #[] #[] := rfl
        simp only [resolve,eg,Deferred.ofValue,Sem.run_pure,List.map_toArray,List.map_cons,List.map_nil,hev]
       ·simp only [invoke]
        exact k1 _ _
       ·refine CallsIn.mono (F:=Fw ro) (n:=0) (k2:CallsIn (Fw ro) 0 G.P gf _ _ _) fun e w3 he => ?_
        obtain ⟨v,S3,rfl,j1,j2,j3⟩:=he
        obtain ⟨t',ht',_,_,h4⟩:=j1.ids s.h.length te hte
        have:=h4 rfl;subst this
        obtain ⟨L3,g1,_,_,g2,g3,g4,g5,g6,g7,g8⟩:=aFQ j2 ht' hh3
        obtain ⟨ev4,hH4⟩:=g8 .exhausted pend g4
        have hbz:L3.state≠.busy:=by rw [g2];cases st <;> simp [aFp] at hbusy ⊢
        have hrun3:=run_endLoop (P:=G.P) g1 hbz
        have hAt:At G B S0 w0 ⟨s.t,h3.set s.h.length (.loop .exhausted pend tl ps' asg' body')⟩ { a with defers:=mark++a.defers } (w3.putObj te.b (.loop { L3 with state:=aFp .exhausted,pending:=pend.bind aBk })) :=
         ⟨S3,(((e0.trans ev1).trans ev2).trans j1).trans ev4,hH4,(hf2.evo j1).evo ev4,hm1 S3 _ ((ev2.trans j1).trans ev4)⟩
        refine ⟨_,_,hrun3,?_⟩
        rw [g3]
        cases hpn:pend with
        | none =>
         subst hpn
         exact hQ _ _ hAt
        | some o =>
         subst hpn
         cases o with
         | normal=>exact absurd rfl (g4 _ rfl)
         | exit id =>
          have h:=hQ _ _ hAt
          by_cases hg:id < gB
          ·have e:aBk (.exit id)=some (.exit id):=by simp [aBk,hg]
           simp only [Option.bind_some,Option.getD_some,e] at h ⊢
           rw [aCB hg] at h
           exact wpIn_exit h
          ·have e:aBk (.exit id)=some (.goto (id - gB)):=by simp [aBk,hg]
           simp only [Option.bind_some,Option.getD_some,e] at h ⊢
           rw [aD8 hg] at h
           exact wpIn_goto h
         | ret=>exact wpIn_ret (hQ _ _ hAt)
     ·cases hr
    ·cases hr
   ·cases hr
  ·cases hc
 | refuse why=>exact ⟨fun hc=>by simp [aAA] at hc,fun l rest h=>by simp [findLabel] at h⟩
theorem aIe (hC:CallOk G call) (hmx:G.P.follows .mixedOrders=true) (hR:InR S0 ro) (n:Nat) (c:Code):aFI G B S0 w0 call hp ro n c:=(aPx hC hmx hR n c).1
theorem aLX (hC:CallOk G call) (hmx:G.P.follows .mixedOrders=true) (hR:InR S0 ro) (n:Nat) (c:Code) {ac:ACode} (hc:aHe G hp c ac) {Q:Exit→Act→World→Prop} {s s':St} {out:Out} {a:Act} {w:World}
  (hr:aA1 call n ac s=some (out,s')) (hA:At G B S0 w0 s a w) (hQ:∀ a' w',At G B S0 w0 s' a' w'→Q (aGH out) a' w'):c.wpIn (Fw ro) 0 G.P Q a w:=by
 obtain ⟨m,m',a0,nt,lv,o,h1,rfl | rfl⟩:=hc
 ·simp only [aA1] at hr
  exact aIe hC hmx hR n c h1 nt lv o hr (hA.kill m) hQ
 ·simp only [aA1] at hr
  cases hb:aA1 call n (kc nt a0 lv o) s with
  | none=>simp [hb] at hr
  | some r =>
   obtain ⟨o1,s1⟩:=r
   simp only [hb] at hr
   refine aIe hC hmx hR n c h1 nt lv o hb hA fun a' w' hA' => ?_
   cases o1 with
   | normal=>simp at hr;obtain ⟨rfl,rfl⟩:=hr;exact hQ _ _ (hA'.kill m')
   | exit j=>simp at hr;obtain ⟨rfl,rfl⟩:=hr;exact hQ _ _ hA'
   | ret=>simp at hr;obtain ⟨rfl,rfl⟩:=hr;exact hQ _ _ hA'
end
end Go.Proofs.Yteenffomgdfocaa.Ai
