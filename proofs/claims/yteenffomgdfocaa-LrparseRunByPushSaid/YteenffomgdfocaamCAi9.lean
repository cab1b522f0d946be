/- The operations, one by one: the fifth part: append, copy, make. -/
import Derived.Test.YteenffomgdfocaamCAi8
import Derived.Lib.Strings
namespace Go.Proofs.Yteenffomgdfocaa.Ai
open Go Go.RowKit
open List renaming getElem?_eq_some_iff → Q0, getElem?_take → Q1, getElem?_map → Q2, getD → Q3
set_option linter.unusedVariables false
set_option linter.unusedSimpArgs false
theorem aKO (n:Nat):∀ (r c:Nat),c≤2*n+256→Builtin.growBy n r c≤2*n+256
 | 0,c,h=>h
 | r+1,c,h=>by
  unfold Builtin.growBy
  split
  ·exact h
  ·exact aKO n r _ (by omega)
theorem aJc {n c:Nat} (h:c < n):Builtin.nextslicecap n c≤2*n+256:=by
 unfold Builtin.nextslicecap
 split
 ·omega
 ·split
  ·omega
  ·exact aKO n 4 c (by omega)
section
variable {G : Pg} {B : Nat → Prop} {S : List Ent} {w : World} {h : aA0}
def aGA (B:Nat→Prop) (S:List Ent) (w:World) (us:List Value) (xs:List (List AV)) (sz:Nat):Prop :=
 us.length=xs.length*sz∧∀ (e:Nat) (c:List AV),xs[e]?=some c→c.length=sz∧∀ (j:Nat) (y:AV),c[j]?=some y→Rep B S w (us.getD (e*sz+j) Go.undef) y
theorem aGA.evo {S':List Ent} {w':World} {us:List Value} {xs:List (List AV)} {sz:Nat} (hf:aGA B S w us xs sz) (ev:Evo S w S' w'):aGA B S' w' us xs sz :=
 ⟨hf.1,fun e c he=>⟨(hf.2 e c he).1,fun j y hj=>((hf.2 e c he).2 j y hj).evo ev⟩⟩
theorem aGA.append {us vs:List Value} {xs ys:List (List AV)} {sz:Nat} (hf:aGA B S w us xs sz) (hg:aGA B S w vs ys sz):aGA B S w (us++vs) (xs++ys) sz:=by
 refine ⟨by simp [hf.1,hg.1,Nat.add_mul],fun e c he => ?_⟩
 by_cases hl:e < xs.length
 ·rw [List.getElem?_append_left hl] at he
  obtain ⟨k1,k2⟩:=hf.2 e c he
  refine ⟨k1,fun j y hj => ?_⟩
  have hj':j < sz:=by rw [← k1];exact (Q0.1 hj).1
  have:=aBT (K:=xs.length) (sz:=sz) hl hj'
  have e1:(us++vs).getD (e*sz+j) Go.undef=us.getD (e*sz+j) Go.undef:=by
   simp only [Q3];rw [List.getElem?_append_left (by rw [hf.1];exact this)]
  rw [e1];exact k2 j y hj
 ·rw [List.getElem?_append_right (by omega)] at he
  obtain ⟨k1,k2⟩:=hg.2 _ c he
  refine ⟨k1,fun j y hj => ?_⟩
  have h1:xs.length*sz≤e*sz:=Nat.mul_le_mul_right sz (by omega)
  have e1:(us++vs).getD (e*sz+j) Go.undef=vs.getD ((e - xs.length)*sz+j) Go.undef:=by
   simp only [Q3]
   rw [List.getElem?_append_right (by rw [hf.1];omega),hf.1]
   congr 2
   rw [Nat.sub_mul];omega
  rw [e1];exact k2 j y hj
theorem aGA.oneCell {us:List Value} {xs:List (List AV)} {sz:Nat} (h0:0 < sz) (hf:aGA B S w us xs sz) (hk:xs.all (fun c=>c.length==sz && c.all aAn)=true):∀ u ∈ us,u.oneCell'=true:=by
 intro u hu
 obtain ⟨p,hp,e⟩:=List.getElem_of_mem hu
 have hp':p < xs.length*sz:=by rw [← hf.1];exact hp
 have hd:p / sz < xs.length:=(Nat.div_lt_iff_lt_mul h0).2 hp'
 have hm:p % sz < sz:=Nat.mod_lt _ h0
 have he:xs[p / sz]?=some xs[p / sz]:=by simp
 obtain ⟨k1,k2⟩:=hf.2 _ _ he
 have hj:xs[p / sz][p % sz]?=some (xs[p / sz][p % sz]'(by omega)):=by simp
 have hr:=k2 _ _ hj
 have e2:p / sz*sz+p % sz=p:=Nat.div_add_mod' p sz
 have e3:us.getD p Go.undef=u:=by simp [Q3,hp,e]
 rw [e2,e3] at hr
 have hjk:=List.all_eq_true.1 hk _ (List.getElem_mem hd)
 simp only [Bool.and_eq_true] at hjk
 have hck:aAn (xs[p / sz][p % sz]'(by omega))=true:=List.all_eq_true.1 hjk.2 _ (List.getElem_mem _)
 exact (hr.cells (fun e=>by rw [e] at hck;cases hck)).2 hck
theorem aEW (hH:HeapRel G B S w h) {sz:Nat} (h0:0 < sz) {vx:Value} {x:AV} {xs:List (List AV)} (hx:Rep B S w vx x) (hr:aAI h sz x=some xs) :
  (Builtin.lenOf vx).run G.P w=.ok xs.length w∧∀ m,m≤xs.length→∃ us:List Value,(Builtin.firstCells sz m vx).run G.P w=.ok us.toArray w∧aGA B S w us (xs.take m) sz:=by
 unfold aAI at hr
 split at hr
 ·have e1:=hx.nilS_inv;subst e1;cases hr
  exact ⟨rfl,fun m hm=>⟨[],rfl,by simp,fun e c he=>by simp at he⟩⟩
 ·rename_i ex l
  have hl:l=xs∧aFT sz l=true:=by
   split at hr
   ·cases hr;exact ⟨rfl,rfl⟩
   ·rename_i c r
    split at hr
    ·rename_i hc;cases hr;exact ⟨rfl,hc⟩
    ·cases hr
  obtain ⟨rfl,hsz⟩:=hl
  have:=hx.vsl_inv
  cases this with
  | vsl0=>exact ⟨rfl,fun m hm=>⟨[],rfl,by simp,fun e c he=>by simp at he⟩⟩
  | vslE A =>
   refine ⟨rfl,fun m hm => ?_⟩
   have hm0:m=0:=by simpa using hm
   subst hm0
   exact ⟨[],by simp [Builtin.firstCells,loadCells,loadCellsFrom],by simp,fun e c he=>by simp at he⟩
  | vsl b base sz' cap ex l f k1 k2 k3 k4 k5 =>
   refine ⟨rfl,fun m hm => ?_⟩
   have hs:∀ (e:Nat) (c:List AV),l[e]?=some c→sz'=sz:=by
    intro e c he
    cases l with
    | nil=>simp at he
    | cons c0 r =>
     have:=k3 0 c0 (by simp)
     simp [aFT] at hsz;omega
   have hlen:∀ (e:Nat) (c:List AV),l[e]?=some c→c.length=sz:=fun e c he=>by rw [k3 e c he];exact hs e c he
   refine ⟨(List.range (m*sz)).map fun p=>f (p / sz) (p % sz),?_,?_,?_⟩
   ·have:=run_loadCells (P:=G.P) w ⟨b,base,none⟩ (m*sz) (fun p=>f (p / sz) (p % sz)) (fun p hp=>by
     have hd:p / sz < m:=(Nat.div_lt_iff_lt_mul h0).2 hp
     have hmm:p % sz < sz:=Nat.mod_lt _ h0
     have he:l[p / sz]?=some (l[p / sz]'(by omega)):=by simp
     have hj:(l[p / sz]'(by omega))[p % sz]?=some ((l[p / sz]'(by omega))[p % sz]'(by rw [hlen _ _ he];exact hmm)):=by simp
     have:=(k4 _ _ _ _ he hj).2
     rw [aCb]
     have e2:base+p / sz*sz'+p % sz=base+p:=by rw [hs _ _ he,Nat.add_assoc,Nat.div_add_mod' p sz]
     rw [← e2];exact this)
    simpa [Builtin.firstCells] using this
   ·simp;rw [Nat.min_eq_left hm]
   ·intro e c he
    rw [Q1] at he
    split at he
    ·rename_i hem
     refine ⟨hlen e c he,fun j y hj => ?_⟩
     have hj':j < sz:=by rw [← hlen e c he];exact (Q0.1 hj).1
     have hlt:=aBT (K:=m) hem hj'
     have e1:((List.range (m*sz)).map fun p=>f (p / sz) (p % sz)).getD (e*sz+j) Go.undef=f e j:=by
      simp only [Q3,Q2,List.getElem?_range hlt,Option.map_some,Option.getD_some]
      rw [Nat.mul_comm e sz,Nat.mul_add_div h0,Nat.mul_add_mod,Nat.div_eq_of_lt hj',Nat.mod_eq_of_lt hj'];rfl
     rw [e1];exact .pure _ _ (k5 e c j y he hj)
    ·cases he
 ·rename_i i v o n c
  split at hr
  ·rename_i sz' xx l hg
   split at hr
   ·rename_i hcond
    obtain ⟨hsz,hon⟩:=hcond
    cases hr
    subst hsz
    obtain ⟨t,cs,rty,g1,g2,g3,g4,g5,g6,g7,⟨fz,hz,g8⟩,g9,g10⟩:=aBA hH hg
    obtain ⟨A,cap,hv,q1,q2,q3,q4,q5⟩:=hx.hsl_inv g1 g3
    subst hv
    have hnl:((l.drop o).take n).length=n:=by simp;omega
    refine ⟨by rw [hnl];rfl,fun m hm => ?_⟩
    rw [hnl] at hm
    have hget:∀ (e:Nat) (c:List AV),(((l.drop o).take n).take m)[e]?=some c→l[o+e]?=some c∧e < m:=by
     intro e c he
     rw [Q1] at he
     split at he
     ·rename_i hem
      rw [Q1] at he
      split at he
      ·rw [List.getElem?_drop] at he;exact ⟨he,hem⟩
      ·cases he
     ·cases he
    refine ⟨(List.range (m*sz')).map fun p=>cs.getD (t.base+o*sz'+p) Go.undef,?_,?_,?_⟩
    ·by_cases hc0:cap=0
     ·have:m=0:=by omega
      subst this
      simp [Builtin.firstCells,loadCells,loadCellsFrom]
     ·have ha:=q5 hc0
      subst ha
      have:=run_loadCells (P:=G.P) w ⟨t.b,t.base+o*t.sz,none⟩ (m*sz') (fun p=>cs.getD (t.base+o*sz'+p) Go.undef) (fun p hp=>by
       rw [aCb,g4]
       refine aIQ g8 ?_
       have h1:(o+m)*sz'≤t.K*sz':=Nat.mul_le_mul_right sz' (by omega)
       rw [Nat.add_mul] at h1
       omega)
      simpa [Builtin.firstCells] using this
    ·simp only [List.length_map,List.length_range,List.length_take,List.length_drop]
     congr 1;omega
    ·intro e c he
     obtain ⟨he1,hem⟩:=hget e c he
     obtain ⟨k1,k2⟩:=g10 _ c he1
     refine ⟨k1,fun j y hj => ?_⟩
     have hj':j < sz':=by rw [← k1];exact (Q0.1 hj).1
     have hlt:=aBT (K:=m) hem hj'
     have e1:((List.range (m*sz')).map fun p=>cs.getD (t.base+o*sz'+p) Go.undef).getD (e*sz'+j) Go.undef=cs.getD (t.base+(o+e)*sz'+j) Go.undef:=by
      simp only [Q3,Q2,List.getElem?_range hlt,Option.map_some,Option.getD_some]
      congr 1;rw [Nat.add_mul];omega
     rw [e1];exact k2 j y hj
   ·cases hr
  ·cases hr
 ·rename_i s
  split at hr
  ·rename_i h1
   cases hr
   subst h1
   obtain ⟨bs,rfl,rfl⟩:=hx.str_inv
   have hbl:bs.data.toList.length=bs.size:=Array.length_toList
   refine ⟨by rw [List.length_map,hbl];rfl,fun m hm => ?_⟩
   simp only [List.length_map] at hm
   refine ⟨(bs.data.toList.take m).map fun b=>.int .u8 b.toNat,?_,?_,?_⟩
   ·simp only [Builtin.firstCells,Sem.run_pure]
    congr 1
    apply Array.ext'
    have:=Lib.extract_data bs 0 m
    simp only [Array.toList_map]
    rw [this]
    simp
   ·simp
   ·intro e c he
    rw [Q1] at he
    split at he
    ·rename_i hem
     rw [Q2] at he
     cases hb:bs.data.toList[e]? with
     | none=>rw [hb] at he;cases he
     | some b =>
      rw [hb] at he
      cases he
      refine ⟨rfl,fun j y hj => ?_⟩
      have hj0:j=0:=by have:=(Q0.1 hj).1;simp at this;omega
      subst hj0
      simp at hj
      subst hj
      have e1:((bs.data.toList.take m).map fun b=>Value.int .u8 b.toNat).getD (e*1+0) Go.undef=.int .u8 b.toNat:=by
       simp only [Q3,Nat.mul_one,Nat.add_zero,Q2,Q1,hem,if_true,hb,Option.map_some,Option.getD_some]
      rw [e1];exact .int _ _
    ·cases he
  ·cases hr
 ·cases hr
end
end Go.Proofs.Yteenffomgdfocaa.Ai
