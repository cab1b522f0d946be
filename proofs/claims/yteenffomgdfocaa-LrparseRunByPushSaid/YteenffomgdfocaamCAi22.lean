/- **The abstract interpreter is right**: what it says of a call is what the model's call does. -/
import Derived.Test.YteenffomgdfocaamCAi21
namespace Go.Proofs.Yteenffomgdfocaa.Ai
open Go Go.RowKit
set_option linter.unusedVariables false
set_option linter.unusedSimpArgs false
section
variable {G : Pg}
def Pg.cfg (G:Pg):Cfg:=⟨aJm G.P G.hp G.pu,G.pu,fun _=>none⟩
theorem aR7 {call:aAc} (hC:CallOk G call) (hmx:G.P.follows .mixedOrders=true) {n g:Nat} {B:Nat→Prop} {S:List Ent} {w:World} {h h':aA0} {vs:Array Value} {args:List AV} {x:AV}
  (hr:aB5 G.cfg call n g args h=some (x,h')) (hH:HeapRel G B S w h) (hv:aAx B S w vs args) :
  (∀ args w,(callFunc g args).run G.P w=.ok (.enter g args) w)∧CallsIn (Fw none) 0 G.P g vs w (Ret G B S w x h'):=by
 unfold aB5 at hr
 split at hr
 ·rename_i l hl
  simp only [Pg.cfg,aAa] at hr
  obtain ⟨p1,p2,p3⟩:=aCR (aHF hH 1000) hl hv.2
  cases hP:aJm G.P G.hp G.pu g with
  | none=>simp [hP] at hr
  | some afn =>
   simp only [hP] at hr
   cases hrun:aAS call n afn (l.map (·.1)) [] with
   | none=>simp [hrun] at hr
   | some r =>
    obtain ⟨v,hcal⟩:=r
    simp only [hrun] at hr
    cases hfz:freeze hcal 1000 v with
    | none=>simp [hfz] at hr
    | some q =>
     obtain ⟨y,cy⟩:=q
     simp only [hfz,Option.map_some] at hr
     by_cases hcond:(l.all (·.2) || aDC y || aDA ⟨aJm G.P G.hp G.pu,G.pu,fun _=>none⟩ call n g (l.map (·.1)))=true
     ·rw [hcond] at hr
      simp only [cond_true,Option.some.injEq,Prod.mk.injEq] at hr
      obtain ⟨rfl,rfl⟩:=hr
      have hfn:∃ fn,G.P.funcs[g]?=some fn∧cFn G.P (G.hp g) G.pu fn=some afn:=by
       unfold aJm at hP
       cases hf:G.P.funcs[g]? with
       | none=>simp [hf] at hP
       | some fn=>exact ⟨fn,rfl,by simpa [hf] using hP⟩
      obtain ⟨fn,hf1,hf2⟩:=hfn
      have main:∀ (B':Nat→Prop),(∀ b,B' b→b < w.heap.size)→aAx B' [] w vs (l.map (·.1)) →
        (∀ (w':World) (vr:Value),PRep (fun b=>¬ B' b) w' vr y→PRep (imm B S) w' vr y) →
        (∀ args w,(callFunc g args).run G.P w=.ok (.enter g args) w)∧CallsIn (Fw none) 0 G.P g vs w (Ret G B S w y h):=by
       intro B' hB' hv' hfin
       have hH':HeapRel G B' [] w []:=⟨rfl,fun i j ti tj h=>by simp at h,fun i t h=>by simp at h,fun i t o h=>by simp at h,hB'⟩
       obtain ⟨k1,k2⟩:=aOj hC hmx hf1 hf2 hrun hH' hv'
       refine ⟨k1,CallsIn.mono k2 fun e w' he => ?_⟩
       obtain ⟨vr,S',rfl,ev,hH2,hr2⟩:=he
       have ev':Evo S w S w':=⟨ev.os,ev.tape,ev.output,ev.size,fun b hb hn=>⟨(ev.keep b hb (by simp [aBx])).1,hn⟩,fun i t h=>⟨t,h,Nat.le_refl _,fun _=>rfl,fun _=>rfl⟩⟩
       refine ⟨vr,S,rfl,ev',?_,.pure _ _ (hfin w' vr (aHF hH2 1000 v y cy vr hfz hr2).1)⟩
       exact hH.step ev' hH.len hH.inj (fun i t ht=>by have:=hH.lt i t ht;exact ⟨Nat.lt_of_lt_of_le this.1 ev.size,this.2⟩)
        fun i t o ht ho=>.inl ⟨ht,ho,(ev.keep t.b (hH.lt i t ht).1 (by simp [aBx])).1⟩
      rw [Bool.or_eq_true,Bool.or_eq_true] at hcond
      rcases hcond with (hcl | hfl) | hown
      ·obtain ⟨q1,q2⟩:=p3 hcl
       refine main (fun b=>b ∈ aBx S∨B b) ?_ ?_ ?_
       ·rintro b (hb | hb)
        ·obtain ⟨u,hu1,hu2⟩:=List.mem_map.1 hb
         obtain ⟨j,hj⟩:=List.getElem?_of_mem hu1
         exact hu2 ▸ (hH.lt j u hj).1
        ·exact hH.bl b hb
       ·rw [q1]
        refine ⟨hv.1,fun j z hj=>.pure _ _ ((q2 j z hj).mono fun ad u hI hu=>⟨⟨by simp [aBx],?_⟩,hu⟩)⟩
        exact fun hb=>hb.elim hI.1 hI.2
       ·intro w' vr hp
        exact hp.mono fun ad u hI hu=>⟨⟨fun hb=>hI (.inl hb),fun hb=>hI (.inr hb)⟩,hu⟩
      ·refine main (fun _=>False) (fun b hb=>hb.elim) ⟨by rw [hv.1,p1],fun j z hj=>.pure _ _ ((p2 j z hj).mono fun ad u hI hu=>⟨⟨by simp [aBx],fun h=>h⟩,hu⟩)⟩ ?_
       intro w' vr hp
       exact aN7 hfl hp
      ·have hcv:aBr hcal 1000 v=true:=by
        simp only [aDA,hP,hrun] at hown
        exact hown
       have hv':aAx (fun _=>False) [] w vs (l.map (·.1)):=⟨by rw [hv.1,p1],fun j z hj=>.pure _ _ ((p2 j z hj).mono fun ad u hI hu=>⟨⟨by simp [aBx],fun h=>h⟩,hu⟩)⟩
       have hH':HeapRel G (fun _=>False) [] w []:=⟨rfl,fun i j ti tj h=>by simp at h,fun i t h=>by simp at h,fun i t o h=>by simp at h,fun b hb=>hb.elim⟩
       obtain ⟨k1,k2⟩:=aOj hC hmx hf1 hf2 hrun hH' hv'
       refine ⟨k1,CallsIn.mono k2 fun e w' he => ?_⟩
       obtain ⟨vr,S',rfl,ev,hH2,hr2⟩:=he
       have ev':Evo S w S w':=⟨ev.os,ev.tape,ev.output,ev.size,fun b hb hn=>⟨(ev.keep b hb (by simp [aBx])).1,hn⟩,fun i t h=>⟨t,h,Nat.le_refl _,fun _=>rfl,fun _=>rfl⟩⟩
       have hp:=aM3 hH2 1000 v y cy vr hcv hfz hr2
       refine ⟨vr,S,rfl,ev',?_,.pure _ _ (hp.mono fun ad u hI hu=>⟨?_,hu⟩)⟩
       ·exact hH.step ev' hH.len hH.inj (fun i t ht=>by have:=hH.lt i t ht;exact ⟨Nat.lt_of_lt_of_le this.1 ev.size,this.2⟩)
         fun i t o ht ho=>.inl ⟨ht,ho,(ev.keep t.b (hH.lt i t ht).1 (by simp [aBx])).1⟩
       ·have hnew:¬ ad.block < w.heap.size:=fun hlt=>(ev.keep ad.block hlt (by simp [aBx])).2 hI
        refine ⟨fun hb=>hnew ?_,fun hb=>hnew (hH.bl _ hb)⟩
        obtain ⟨u1,hu1,hu2⟩:=List.mem_map.1 hb
        obtain ⟨j,hj⟩:=List.getElem?_of_mem hu1
        exact hu2 ▸ (hH.lt j u1 hj).1
     ·rw [Bool.not_eq_true] at hcond
      rw [hcond] at hr;cases hr
 ·cases hr
theorem aPc {C:Cfg} {call:aAc} {n g:Nat} {args:List AV} {h h':aA0} {x:AV} (hr:aB5 C call n g args h=some (x,h')):h'=h∧∀ o,aB5 C call n g args (h++[o])=some (x,h++[o]):=by
 unfold aB5 at hr
 cases hl:aAk (freeze h 1000) args with
 | none=>simp [hl] at hr
 | some l =>
  simp only [hl] at hr
  cases hv:aAa C call n g (l.map (·.1)) with
  | none=>simp only [hv] at hr;cases hr
  | some v =>
   simp only [hv] at hr
   by_cases hc:(l.all (·.2) || aDC v || aDA C call n g (l.map (·.1)))=true
   ·rw [hc] at hr
    cases hr
    refine ⟨rfl,fun o => ?_⟩
    unfold aB5
    rw [aBZ hl fun x _ y hy=>aOi o 1000 x y hy]
    simp only [hv,hc,cond_true]
   ·rw [Bool.not_eq_true] at hc
    rw [hc] at hr;cases hr
theorem aMe (hmx:G.P.follows .mixedOrders=true):∀ k,CallOk G (aBe G.cfg k)
 | 0=>⟨fun _ _ _ _ _ _ _ _ _ h=>by simp [aBe] at h,fun _ _ _ _ _ _ _ _ _ _ h=>by simp [aBe] at h,fun _ _ _ _ _ _ h=>by simp [aBe] at h⟩
 | k+1=>by
  have ih:=aMe hmx k
  refine ⟨fun B S w h vs args g x h' hr hH hv => ?_,fun B S w h vs args i t x h' hr ht hH hv => ?_,fun g args h x h' hp hr => ?_⟩
  ·simp only [aBe] at hr
   split at hr
   ·exact aR7 ih hmx hr hH hv
   ·split at hr
    ·rename_i afn hP
     unfold Pg.cfg aJm at hP
     cases hf:G.P.funcs[g]? with
     | none=>simp [hf] at hP
     | some fn=>exact aOj ih hmx hf (by simpa [hf] using hP) hr hH hv
    ·cases hr
  ·simp only [aBe] at hr
   exact aPR ih hmx hr ht hH hv
  ·simp only [aBe] at hr ⊢
   have hp':G.cfg.pu g=true:=hp
   simp only [hp',if_true] at hr ⊢
   exact aPc hr
theorem aKG (hmx:G.P.follows .mixedOrders=true) {k g:Nat} {args:List AV} {x y:AV} {c:Bool} {h':aA0} (hr:aBe G.cfg k (.func g) args []=some (x,h')) (hf:freeze h' 1000 x=some (y,c)) {w:World} {vs:Array Value}
  (hv:aGp (fun _=>True) w vs args):Calls G.P g vs w fun e w'=>∃ v,e=.returned v∧Below w.heap.size w w'∧PRep (fun _=>True) w' v y:=by
 have hH:HeapRel G (fun _=>False) [] w []:=⟨rfl,fun i j ti tj h=>by simp at h,fun i t h=>by simp at h,fun i t o h=>by simp at h,fun b h=>h.elim⟩
 obtain ⟨_,k2⟩:=(aMe hmx k).fn (fun _=>False) [] w [] vs args g x h' hr hH ⟨hv.1,fun j z hj=>.pure _ _ ((hv.2 j z hj).mono fun ad u _ hu=>⟨⟨by simp [aBx],fun h=>h⟩,hu⟩)⟩
 have k3:=callsIn_wide.1 (k2:CallsIn Fence.wide 0 G.P g vs w _)
 refine Calls.mono k3 fun e w' he => ?_
 obtain ⟨v,S',rfl,ev,hH2,hr2⟩:=he
 refine ⟨v,rfl,⟨ev.os,ev.tape,ev.output,ev.size,fun b hb=>(ev.keep b hb (by simp [aBx])).1⟩,?_⟩
 exact (aHF hH2 1000 x y c v hf hr2).1.mono fun ad u _ hu=>⟨trivial,hu⟩
end
#print axioms aKG
end Go.Proofs.Yteenffomgdfocaa.Ai
