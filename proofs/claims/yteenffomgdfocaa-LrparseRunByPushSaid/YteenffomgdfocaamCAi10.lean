/- The operations, one by one: the sixth part: append, copy, make. -/
import Derived.Test.YteenffomgdfocaamCAi9
namespace Go.Proofs.Yteenffomgdfocaa.Ai
open Go Go.RowKit
open List renaming getElem?_eq_some_iff → Q0, getElem?_toArray → Q2, getElem?_append_left → Q5, getElem?_set → Q6
open Nat renaming add_mul → Q1, mul_le_mul_right → Q3, le_refl → Q4
set_option linter.unusedVariables false
set_option linter.unusedSimpArgs false
section
variable {G : Pg} {B : Nat → Prop} {S : List Ent} {w : World} {h : aA0}
theorem HeapRel.bump (hH:HeapRel G B S w h) {w':World} (hos:w'.os=w.os) (htape:w'.tape=w.tape) (hout:w'.output=w.output) (hsz:w.heap.size≤w'.heap.size)
  {i:Nat} {t t':Ent} (ht:S[i]?=some t) (hz:0 < t.sz) (hv:t.v < t'.v) (hb:t'.b=t.b∨(w.heap.size≤t'.b∧t'.b < w'.heap.size)) (hk:∀ k,k < w.heap.size→k≠t.b→w'.heap[k]?=w.heap[k]?)
  (o:AObj) (ho:Evo S w (S.set i t') w'→aDG G B (S.set i t') w' t' o):Evo S w (S.set i t') w'∧HeapRel G B (S.set i t') w' (h.set i o)∧(S.set i t')[i]?=some t':=by
 have hi:i < S.length:=(Q0.1 ht).1
 have hget:∀ (j:Nat) (tj:Ent),(S.set i t')[j]?=some tj→(i=j∧tj=t')∨(i≠j∧S[j]?=some tj):=by
  intro j tj hj
  by_cases e:i=j
  ·subst e
   left
   refine ⟨rfl,?_⟩
   simp [hi] at hj;exact hj.symm
  ·right
   exact ⟨e,by simpa [Q6,e] using hj⟩
 have ev:Evo S w (S.set i t') w':=by
  refine ⟨hos,htape,hout,hsz,?_,?_⟩
  ·intro k hklt hn
   refine ⟨hk k hklt (fun e=>hn (e ▸ aDc ht)),?_⟩
   intro hm
   obtain ⟨u,hu1,hu2⟩:=List.mem_map.1 hm
   obtain ⟨j,hj⟩:=List.getElem?_of_mem hu1
   rcases hget j u hj with ⟨_,rfl⟩ | ⟨_,hj'⟩
   ·rcases hb with hb | hb
    ·exact hn (by rw [← hu2,hb];exact aDc ht)
    ·omega
   ·exact hn (hu2 ▸ aDc hj')
  ·intro j tj hj
   by_cases e:i=j
   ·subst e
    rw [ht] at hj;cases hj
    exact ⟨t',by simp [hi],by omega,fun e=>by omega,fun e=>by omega⟩
   ·exact ⟨tj,by simpa [Q6,e] using hj,Q4 _,fun _=>rfl,fun _=>rfl⟩
 have hbB:¬ B t'.b:=by
  rcases hb with hb | hb
  ·rw [hb];exact (hH.lt i t ht).2
  ·intro hB;have:=hH.bl _ hB;omega
 have hblt:t'.b < w'.heap.size:=by
  rcases hb with hb | hb
  ·rw [hb];exact Nat.lt_of_lt_of_le (hH.lt i t ht).1 hsz
  ·exact hb.2
 have hfresh:∀ (j:Nat) (tj:Ent),i≠j→S[j]?=some tj→tj.b≠t'.b:=by
  intro j tj hij hj e
  rcases hb with hb | hb
  ·exact hij (hH.inj i j t tj ht hj (by rw [e,hb]))
  ·have:=(hH.lt j tj hj).1;omega
 refine ⟨ev,hH.step ev (by simp [hH.len]) ?_ ?_ ?_,by simp [hi]⟩
 ·intro a b ta tb ha hb' e
  rcases hget a ta ha with ⟨h1,rfl⟩ | ⟨h1,h2⟩ <;> rcases hget b tb hb' with ⟨h3,rfl⟩ | ⟨h3,h4⟩
  ·omega
  ·exact absurd e.symm (hfresh b tb h3 h4)
  ·exact absurd e (hfresh a ta h1 h2)
  ·exact hH.inj a b ta tb h2 h4 e
 ·intro j tj hj
  rcases hget j tj hj with ⟨_,rfl⟩ | ⟨_,h2⟩
  ·exact ⟨hblt,hbB⟩
  ·have:=hH.lt j tj h2;exact ⟨by omega,this.2⟩
 ·intro j tj oj hj hoj
  rcases hget j tj hj with ⟨h1,rfl⟩ | ⟨h1,h2⟩
  ·subst h1
   have e2:oj=o:=by
    rw [Q6] at hoj
    simp only [if_true] at hoj
    split at hoj
    ·exact (Option.some.inj hoj).symm
    ·cases hoj
   subst e2
   exact .inr (ho ev)
  ·refine .inl ⟨h2,by simpa [Q6,h1] using hoj,hk _ (hH.lt j tj h2).1 fun e=>h1 (hH.inj i j t tj ht h2 e.symm)⟩
theorem aHq {P:Program} {t:TypeId} {b:Nat} (h:aDY P t=some b):∃ i,P.info? t=some i∧i.bytes=b:=by
 unfold aDY at h
 cases hi:P.info? t with
 | none=>simp [hi] at h
 | some i=>simp [hi] at h;exact ⟨i,rfl,h⟩
theorem aIr {sT xT ty e sz n:Nat} (hu:G.P.underlying sT=some (.slice e)) {dx:TypeDesc} (hx:G.P.underlying xT=some dx) (hd:∀ k,dx≠.int k) (hs:aAM G.P e=some sz)
  {A:Option Addr} {sLen sCap:Nat} {vx:Value} (hl:(Builtin.lenOf vx).run G.P w=.ok n w) {us:List Value} (hc:(Builtin.firstCells sz n vx).run G.P w=.ok us.toArray w) (hroom:sLen+n≤sCap)
  {w':World} (hst:(match A with | some a=>storeCells (a.add (sLen*sz)) us | none=>pure ():Sem Unit).run G.P w=.ok () w') :
  (Builtin.append_ #[sT, xT] ty #[.slice A sLen sCap, vx]).run G.P w = .ok (.slice A (sLen + n) sCap) w' := by
 obtain ⟨inf,m1,m2,m3,m4⟩:=aAZ hs
 have hz:(underlying xT).run G.P w=.ok dx w:=run_underlying hx w
 have hm:(match dx with | .int _=>true | _=>false)=false:=by
  cases dx <;> first | rfl | exact absurd rfl (hd _)
 unfold Builtin.append_
 simp only [Q2,List.getElem?_cons_zero,List.getElem?_cons_succ,Sem.run_bind,run_underlying hu,Result.andThen_ok,m4,hz,hm,Bool.false_eq_true,if_false,Sem.run_pure,hl,hroom,if_true,Bool.not_false]
 cases A with
 | none=>simp_all
 | some a=>simp_all
theorem aIs {sT xT ty e sz n bytes:Nat} {z:List AV} (hu:G.P.underlying sT=some (.slice e)) {dx:TypeDesc} (hx:G.P.underlying xT=some dx) (hd:∀ k,dx≠.int k) (hs:aAM G.P e=some sz)
  (hb:aDY G.P e=some bytes) (hz:aBY G.P e=some z) {A:Option Addr} {sLen sCap:Nat} {vx:Value} (hl:(Builtin.lenOf vx).run G.P w=.ok n w) {us old:List Value}
  (hc:(Builtin.firstCells sz n vx).run G.P w.drew=.ok us.toArray w.drew) (ho:(Builtin.firstCells sz sLen (.slice A sLen sCap)).run G.P w.drew=.ok old.toArray w.drew)
  (hus:us.length=n*sz) (hold:old.length=sLen*sz) (hroom:¬ sLen+n≤sCap) (hsize:(sLen+n)*(bytes+1)≤68719476736) :
  ∃ (cap:Nat) (cs:Array Value) (rest:List Value),sLen+n≤cap∧cs=(old++us++rest).toArray∧cs.size=cap*sz ∧
   (Builtin.append_ #[sT, xT] ty #[.slice A sLen sCap, vx]).run G.P w = .ok (.slice (some ⟨w.heap.size, 0, none⟩) (sLen + n) cap) (w.drew.alloc (.cells cs e)) := by
 obtain ⟨inf,m1,m2,m3,m4⟩:=aAZ hs
 obtain ⟨inf',b1,b2⟩:=aHq hb
 obtain ⟨i,v,z1,z2,z3,z4,z5,z6,z7⟩:=aEf (w:=w) (I:=fun _=>True) hz
 rw [m1] at b1;cases b1
 rw [m1] at z1;cases z1
 have hyp:(underlying xT).run G.P w=.ok dx w:=run_underlying hx w
 have hm:(match dx with | .int _=>true | _=>false)=false:=by
  cases dx <;> first | rfl | exact absurd rfl (hd _)
 have hle:sLen+n≤68719476736:=Nat.le_trans (Nat.le_mul_of_pos_right _ (by omega)) hsize
 have hneed:¬ (((sLen+n:Nat):Int) > IntKind.i64.max):=by
  have e3:IntKind.i64.max=9223372036854775807:=rfl
  rw [e3];omega
 have hcapb:¬ Builtin.nextslicecap (sLen+n) sCap*inf.bytes > 2 ^ 48:=by
  have h1:=aJc (n:=sLen+n) (c:=sCap) (by omega)
  have h2:Builtin.nextslicecap (sLen+n) sCap*inf.bytes≤(2*(sLen+n)+256)*inf.bytes:=Q3 _ h1
  have h3:(2*(sLen+n)+256)*inf.bytes≤258*((sLen+n)*(inf.bytes+1)):=by
   have e1:258*((sLen+n)*(inf.bytes+1))=(258*(sLen+n))*(inf.bytes+1):=by rw [Nat.mul_assoc]
   rw [e1]
   exact Nat.mul_le_mul (by omega) (by omega)
  rw [b2] at h3 h2 ⊢
  omega
 let cap:=(Question.appendCap (sLen+n) sCap e).cut (w.tape w.drawn (.appendCap (sLen+n) sCap e))
 have hcap:sLen+n≤cap:=Nat.le_add_right _ _
 refine ⟨cap,_,(Builtin.zeroCells v.cells (cap - (sLen+n))).toList,hcap,rfl,?_,?_⟩
 ·have hzc:(Builtin.zeroCells v.cells (cap - (sLen+n))).size=(cap - (sLen+n))*sz:=by
   simp [Builtin.zeroCells,z3,m2]
  simp only [List.size_toArray,List.length_append,hus,hold,Array.length_toList,hzc]
  rw [← Q1,← Q1]
  congr 1;omega
 ·have hch:(choose (.appendCap (sLen+n) sCap e)).run G.P w=.ok cap w.drew:=by
   rfl
  have hti:∀ w',(typeInfo e).run G.P w'=.ok inf w':=fun w'=>by simp [typeInfo,m1]
  have hask:∀ (k:Nat) w',(askRoom k).run G.P w'=.ok () w':=fun k w'=>by
   unfold askRoom;split <;> rfl
  unfold Builtin.append_
  simp only [Q2,List.getElem?_cons_zero,List.getElem?_cons_succ,Sem.run_bind,run_underlying hu,Result.andThen_ok,m4,hyp,hm,Bool.false_eq_true,if_false,Sem.run_pure,hl,hroom,Bool.not_false,hti,hneed,false_and,hcapb,hch,hask,hc,ho,z7,if_true]
  simp only [newRow,Sem.run_bind,run_newObj_alloc,Result.andThen_ok,Sem.run_pure]
  have e9:us.toArray=us.toArray:=rfl
  have e8:(old.toArray++us.toArray++Builtin.zeroCells v.cells (cap - (sLen+n)))=(old++us++(Builtin.zeroCells v.cells (cap - (sLen+n))).toList).toArray:=by
   apply Array.ext';simp
  rw [e8]
  rfl
theorem aPD (hH:HeapRel G B S w h) {sT xT ty e sz bytes:Nat} {z:List AV} (hu:G.P.underlying sT=some (.slice e)) {dx:TypeDesc} (hxT:G.P.underlying xT=some dx) (hd:∀ k,dx≠.int k)
  (hs:aAM G.P e=some sz) (hb:aDY G.P e=some bytes) (hz:aBY G.P e=some z) {vs vx:Value} {s x:AV} (hsv:Rep B S w vs s) (hx:Rep B S w vx x) {xs:List (List AV)} (he:aAI h sz x=some xs)
  {r : AV} {h' : aA0} (hr : aD0 h sz bytes s xs = some (r, h')) : Ok G B S w ((Builtin.append_ #[sT, xT] ty #[vs, vx]).run G.P w) h' r := by
 obtain ⟨inf,m1,m2,m3,m4⟩:=aAZ hs
 have h0:0 < sz:=by omega
 obtain ⟨el1,el2⟩:=aEW hH h0 hx he
 obtain ⟨us,hus,hflat⟩:=el2 xs.length (Q4 _)
 rw [List.take_length] at hflat
 -- in the world behind a draw
 have hHd:=hH.drew
 have hxd:Rep B S w.drew vx x:=hx.evo (Evo.drew S w)
 have hsd:Rep B S w.drew vs s:=hsv.evo (Evo.drew S w)
 obtain ⟨eld1,eld2⟩:=aEW hHd h0 hxd he
 obtain ⟨usd,husd,hflatd⟩:=eld2 xs.length (Q4 _)
 rw [List.take_length] at hflatd
 -- a new row
 have fresh:∀ (old:List (List AV)),aAI h sz s=some old→(∀ A n c,vs=.slice A n c→¬ n+xs.length≤c)→(∃ A n c,vs=.slice A n c∧n=old.length)→old.length+xs.length=(old++xs).length →
   (old++xs).length*(bytes+1)≤68719476736∧(old++xs).all (fun c=>c.length==sz && c.all aAn)=true →
   Ok G B S w ((Builtin.append_ #[sT, xT] ty #[vs, vx]).run G.P w) (h ++ [.arr 0 sz false (old ++ xs)]) (.hsl h.length 0 0 (old ++ xs).length none) ∧ True := by
  intro old hold hroom hshape hlen hcond
  obtain ⟨A,n,c,hv,hn⟩:=hshape
  subst hv
  obtain ⟨sl1,sl2⟩:=aEW hHd h0 hsd hold
  obtain ⟨od,hod,hod2⟩:=sl2 old.length (Q4 _)
  rw [List.take_length] at hod2
  subst hn
  obtain ⟨cap,cs,rest,c1,c2,c3,c4⟩:=aIs (G:=G) (w:=w) (ty:=ty) hu hxT hd hs hb hz el1 (us:=usd) (old:=od) husd hod hflatd.1 hod2.1 (hroom _ _ _ rfl) (by rw [← hlen] at hcond;exact hcond.1)
  have hfl:=hod2.append hflatd
  obtain ⟨ev,hH',ht⟩:=aFc hHd e cs sz cap false (old++xs) h0 c3 (by omega) (by simp) (fun q cc hq=>by
   obtain ⟨k1,k2⟩:=hfl.2 q cc hq
   refine ⟨k1,fun j y hj => ?_⟩
   have hj':j < sz:=by rw [← k1];exact (Q0.1 hj).1
   have hql:q < (old++xs).length:=(Q0.1 hq).1
   have hlt:=aBT (K:=(old++xs).length) (sz:=sz) hql hj'
   rw [← hfl.1] at hlt
   have e1:cs.getD (q*sz+j) Go.undef=(od++usd).getD (q*sz+j) Go.undef:=by
    rw [c2]
    simp only [Array.getD_eq_getD_getElem?,Q2,List.getD]
    rw [Q5 hlt]
   rw [e1];exact k2 j y hj)
  refine ⟨⟨_,_,_,c4,(Evo.drew S w).trans ev,hH',?_⟩,trivial⟩
  rw [← hlen]
  exact .hsl h.length 0 _ cap none _ _ ht c1 (by simp) (by simp) (by simp) (fun _=>by simp) rfl
 unfold aD0 at hr
 by_cases hpos0:xs.length=0
 ·rw [if_pos hpos0] at hr
  have hxs0:xs=[]:=List.eq_nil_of_length_eq_zero hpos0
  subst hxs0
  have hus0:us=[]:=by have:=hflat.1;simpa using this
  subst hus0
  unfold aIV at hr
  have room : ∀ (A : Option Addr) (n c : Nat), vs = .slice A n c → n ≤ c → Ok G B S w ((Builtin.append_ #[sT, xT] ty #[vs, vx]).run G.P w) h s := by
   intro A n c hv hnc
   subst hv
   refine Ok.same hH ?_ hsv
   exact aIr (G:=G) (w:=w) (n:=0) hu hxT hd hs el1 hus (by omega) (w':=w) (by cases A <;> rfl)
  split at hr
  ·cases hr
   exact room none 0 0 hsv.nilS_inv (Q4 _)
  ·cases hr
   have:=hsv.vsl_inv
   cases this with
   | vsl0=>exact room none 0 0 rfl (Q4 _)
   | vslE A=>exact room (some A) 0 0 rfl (Q4 _)
   | vsl b base sz' cap ex l f k1 k2 k3 k4 k5=>exact room _ _ _ rfl k1
  ·rename_i i v o n c
   cases hg:aA3 h i v with
   | none=>simp [hg] at hr
   | some q =>
    obtain ⟨sz',xx,l⟩:=q
    simp [hg] at hr
    obtain ⟨rfl,rfl⟩:=hr
    obtain ⟨t,g1,g3,g4⟩:=aGX hH hg
    obtain ⟨A,cap,hv,q1,q2,q3,q4,q5⟩:=hsv.hsl_inv g1 g3
    have q6:A.spot=none:=(hv ▸ hsv).hsl_spot g1 g3
    exact room _ _ _ hv q1
  ·cases hr
 ·rw [if_neg hpos0] at hr
  have hpos:0 < xs.length:=by omega
  unfold aEl at hr
  split at hr
  ·-- nil
   have e1:=hsv.nilS_inv
   unfold aBq at hr
   split at hr
   ·rename_i hc
    cases hr
    exact (fresh [] rfl (fun A n c h=>by rw [e1] at h;cases h;omega) ⟨none,0,0,e1,rfl⟩ (by simp) (by simpa using hc)).1
   ·cases hr
  ·rename_i l
   unfold aBq at hr
   split at hr
   ·rename_i hc
    cases hr
    have hel:aAI h sz (.vsl true l)=some l:=by
     unfold aAI
     cases l with
     | nil=>rfl
     | cons c0 r =>
      have:c0.length=sz:=by
       have:=List.all_eq_true.1 hc.2 c0 (by simp)
       simp only [Bool.and_eq_true,beq_iff_eq] at this
       exact this.1
      simp [this]
    have:=hsv.vsl_inv
    cases this with
    | vsl0=>exact (fresh [] hel (fun A n c h=>by cases h;omega) ⟨none,0,0,rfl,rfl⟩ (by simp) (by simpa using hc)).1
    | vslE A=>exact (fresh [] hel (fun A n c h=>by cases h;omega) ⟨some A,0,0,rfl,rfl⟩ (by simp) (by simpa using hc)).1
    | vsl b base sz' cap ex l f k1 k2 k3 k4 k5 =>
     have:=k2 rfl
     exact (fresh l hel (fun A n c h=>by cases h;omega) ⟨_,_,_,rfl,rfl⟩ (by simp) hc).1
   ·cases hr
  ·rename_i i v o n c
   split at hr
   ·rename_i sz' xx l hg
    split at hr
    ·rename_i hcond
     obtain ⟨hsz,hon⟩:=hcond
     subst hsz
     obtain ⟨t,cs,rty,g1,g2,g3,g4,g5,g6,g7,⟨fz,hfz,g8⟩,g9,g10⟩:=aBA hH hg
     obtain ⟨A,cap,hv,q1,q2,q3,q4,q5⟩:=hsv.hsl_inv g1 g3
     have q6:A.spot=none:=(hv ▸ hsv).hsl_spot g1 g3
     subst hv
     have hel:aAI h sz' (.hsl i v o n c)=some ((l.drop o).take n):=by
      unfold aAI;simp [hg,hon]
     have hnl:((l.drop o).take n).length=n:=by simp;omega
     have hKsz:∀ q,q≤t.K→q*sz'≤t.K*sz':=fun q hq=>Q3 sz' hq
     -- the write where there is room
     have room:n+xs.length≤cap→xs.all (fun c=>c.length==sz' && c.all aAn)=true →
       (Builtin.append_ #[sT, xT] ty #[.slice (some A) n cap, vx]).run G.P w =
        .ok (.slice (some A) (n+xs.length) cap) (w.setRow t.b (cs.toList.take (t.base+(o+n)*sz'+0)++us++cs.toList.drop (t.base+(o+n)*sz'+0+us.length)).toArray) ∧
       A=⟨t.b,t.base+o*t.sz,none⟩∧t.base+(o+n)*sz'+us.length≤cs.size:=by
      intro hroom hok
      have hA:=q5 (by omega)
      have hle:t.base+(o+n)*sz'+us.length≤cs.size:=by
       rw [g9,hflat.1,Nat.add_assoc,← Q1]
       have:=hKsz (o+n+xs.length) (by omega);omega
      refine ⟨aIr (G:=G) (w:=w) hu hxT hd hs el1 hus hroom ?_,hA,hle⟩
      subst hA
      have hst:=aCA G.P t.b (t.base+(o+n)*sz') rty fz us 0 cs w g8 hfz (by omega) (hflat.oneCell g5 hok)
      have e1:(⟨t.b,t.base+o*t.sz,none⟩:Addr).add (n*sz')=⟨t.b,t.base+(o+n)*sz',none⟩:=by
       rw [aCb,g4,Q1];simp only [Addr.mk.injEq,true_and,and_true];omega
      simp only [e1]
      exact hst
     split at hr
     ·-- within the row
      rename_i hin
      split at hr
      ·rename_i hok
       cases hr
       have hcap:n+xs.length≤cap:=by
        cases c with
        | none=>have:=q4 rfl;omega
        | some c=>have:=q3 c rfl;have h2:=hin.2;simp [aHD] at h2;omega
       obtain ⟨r1,r2,r3⟩:=room hcap hok
       have hw:=aHu hH hg g1 g8 ((o+n)*sz') us (by omega) (l.take (o+n)++xs++l.drop (o+n+xs.length)) (by simp;omega) (fun q cc hq=>by
        rw [aEu l xs (o+n) q hin.1] at hq
        by_cases a1:q < o+n
        ·rw [if_pos a1] at hq
         obtain ⟨k1,k2⟩:=g10 q cc hq
         refine ⟨k1,fun j y hj => ?_⟩
         have hj':j < sz':=by rw [← k1];exact (Q0.1 hj).1
         rw [if_pos (aBT a1 hj')]
         exact ⟨cc,hq,hj⟩
        ·rw [if_neg a1] at hq
         by_cases a2:q < o+n+xs.length
         ·rw [if_pos a2] at hq
          obtain ⟨k1,k2⟩:=hflat.2 _ cc hq
          refine ⟨k1,fun j y hj => ?_⟩
          have hj':j < sz':=by rw [← k1];exact (Q0.1 hj).1
          have h1:(o+n)*sz'≤q*sz':=Q3 sz' (by omega)
          have h2:=aBT (K:=o+n+xs.length) a2 hj'
          rw [Q1 (o+n),← hflat.1] at h2
          rw [if_neg (by omega),if_pos (by omega)]
          have e1:q*sz'+j - (o+n)*sz'=(q - (o+n))*sz'+j:=by rw [Nat.sub_mul];omega
          rw [e1];exact k2 j y hj
         ·rw [if_neg a2] at hq
          obtain ⟨k1,k2⟩:=g10 q cc hq
          refine ⟨k1,fun j y hj => ?_⟩
          have h1:(o+n+xs.length)*sz'≤q*sz':=Q3 sz' (by omega)
          rw [Q1 (o+n),← hflat.1] at h1
          rw [if_neg (by omega),if_neg (by omega)]
          exact ⟨cc,hq,hj⟩)
       refine ⟨_,_,S,r1,hw.1,hw.2,?_⟩
       subst g3
       exact .hsl i o _ cap c A t g1 hcap q2 q3 q4 q5 q6
      ·cases hr
     ·rename_i hin
      split at hr
      ·rename_i c
       split at hr
       ·cases hr
       ·rename_i hnc
        unfold aBq at hr
        split at hr
        ·rename_i hc
         cases hr
         have:=q3 c rfl
         exact (fresh _ hel (fun A' n' c' h=>by cases h;omega) ⟨_,_,_,rfl,hnl.symm⟩ (by simp) hc).1
        ·cases hr
      ·-- the row may move
       split at hr
       ·rename_i hc
        cases hr
        have hKc:=q4 rfl
        have hxok:xs.all (fun c=>c.length==sz' && c.all aAn)=true:=by
         have:=hc.2
         rw [List.all_append,Bool.and_eq_true] at this
         exact this.2
        have hll:((l.drop o).take n++xs).length=n+xs.length:=by rw [List.length_append,hnl]
        by_cases hroom:n+xs.length≤cap
        ·obtain ⟨r1,r2,r3⟩:=room hroom hxok
         obtain ⟨f1,f2,f3,f4⟩:=aHr w t.b (cs.toList.take (t.base+(o+n)*sz'+0)++us++cs.toList.drop (t.base+(o+n)*sz'+0+us.length)).toArray
         obtain ⟨ev,hH',ht'⟩:=hH.bump f1 f2 f3 (by rw [f4];exact Q4 _) g1 (by rw [g4];exact g5) (t':=⟨t.b,t.base+o*sz',v+1,sz',t.K - o⟩) (by show t.v < v+1;omega) (.inl rfl)
          (fun k _ hk=>setRow_other w t.b k _ hk) (.arr (v+1) sz' false ((l.drop o).take n++xs)) (fun ev=>by
           refine ⟨rfl,rfl,g5,?_,by simp,_,rty,⟨fz,?_,setRow_heap w t.b cs _ rty fz g8⟩,?_,fun q cc hq => ?_⟩
           ·show _≤t.K - o;rw [hll];omega
           ·have:=aDb cs.toList us (t.base+(o+n)*sz'+0) (by simpa using r3)
            simp only [List.size_toArray,this]
            simpa using hfz
           ·have:=aDb cs.toList us (t.base+(o+n)*sz'+0) (by simpa using r3)
            simp only [List.size_toArray,this]
            show _=t.base+o*sz'+(t.K - o)*sz'
            have:(t.K - o)*sz'=t.K*sz' - o*sz':=Nat.sub_mul _ _ _
            have:=hKsz o (by omega)
            simp;omega
           ·have hql:q < n+xs.length:=by rw [← hll];exact (Q0.1 hq).1
            have main:∀ (j:Nat),j < sz'→(((cs.toList.take (t.base+(o+n)*sz'+0)++us++cs.toList.drop (t.base+(o+n)*sz'+0+us.length)).toArray).getD (t.base+o*sz'+q*sz'+j) Go.undef) =
              if q < n then cs.getD (t.base+(o+q)*sz'+j) Go.undef else us.getD ((q - n)*sz'+j) Go.undef:=by
             intro j hj
             rw [Array.getD_eq_getD_getElem?,Q2,aEu cs.toList us _ _ (by simpa using r3)]
             by_cases a1:q < n
             ·have h1:=aBT (K:=n) a1 hj
              have e1:(o+n)*sz'=o*sz'+n*sz':=Q1 _ _ _
              have e2:(o+q)*sz'=o*sz'+q*sz':=Q1 _ _ _
              rw [if_pos (by omega),if_pos a1]
              have e3:t.base+o*sz'+q*sz'+j=t.base+(o+q)*sz'+j:=by omega
              rw [e3];simp [Array.getD_eq_getD_getElem?]
             ·have h1:n*sz'≤q*sz':=Q3 sz' (by omega)
              have h2:=aBT (K:=n+xs.length) hql hj
              have e1:(o+n)*sz'=o*sz'+n*sz':=Q1 _ _ _
              have e2:(n+xs.length)*sz'=n*sz'+us.length:=by rw [Q1,hflat.1]
              rw [if_neg (by omega),if_pos (by omega),if_neg a1]
              have e3:t.base+o*sz'+q*sz'+j - (t.base+(o+n)*sz'+0)=(q - n)*sz'+j:=by rw [Nat.sub_mul];omega
              rw [e3];simp [List.getD]
            by_cases a1:q < n
            ·have hq':l[o+q]?=some cc:=by
              rw [Q5 (by rw [hnl];exact a1),List.getElem?_take,if_pos a1,List.getElem?_drop] at hq
              exact hq
             obtain ⟨k1,k2⟩:=g10 _ cc hq'
             refine ⟨k1,fun j y hj => ?_⟩
             have hj':j < sz':=by rw [← k1];exact (Q0.1 hj).1
             have hm:=main j hj'
             rw [if_pos a1] at hm
             show Rep B _ _ (Array.getD _ (t.base+o*sz'+q*sz'+j) _) y
             rw [hm];exact (k2 j y hj).evo ev
            ·have hq':xs[q - n]?=some cc:=by
              rw [List.getElem?_append_right (by rw [hnl];omega),hnl] at hq
              exact hq
             obtain ⟨k1,k2⟩:=hflat.2 _ cc hq'
             refine ⟨k1,fun j y hj => ?_⟩
             have hj':j < sz':=by rw [← k1];exact (Q0.1 hj).1
             have hm:=main j hj'
             rw [if_neg a1] at hm
             show Rep B _ _ (Array.getD _ (t.base+o*sz'+q*sz'+j) _) y
             rw [hm];exact (k2 j y hj).evo ev)
         refine ⟨_,_,_,r1,ev,hH',?_⟩
         rw [hll]
         exact .hsl i 0 _ cap none A _ ht' hroom (by show 0+cap≤t.K - o;omega) (by simp) (fun _=>by show 0+cap=t.K - o;omega) (fun _=>by rw [r2,g4];simp) q6
        ·-- it moves
         obtain ⟨sl1,sl2⟩:=aEW hHd h0 hsd hel
         obtain ⟨od,hod,hod2⟩:=sl2 n (by omega)
         have htk:((l.drop o).take n).take n=(l.drop o).take n:=by rw [List.take_take,Nat.min_self]
         rw [htk] at hod2
         obtain ⟨cap',cs',rest,c1,c2,c3,c4⟩:=aIs (G:=G) (w:=w) (ty:=ty) hu hxT hd hs hb hz el1 (us:=usd) (old:=od) husd hod hflatd.1 (by rw [hod2.1,hnl]) hroom (by rw [← hll];exact hc.1)
         have hfl:=hod2.append hflatd
         obtain ⟨ev,hH',ht'⟩:=hH.bump (w':=w.drew.alloc (.cells cs' e)) rfl rfl rfl (by rw [aBo];show w.heap.size≤w.heap.size+1;omega) g1 (by rw [g4];exact g5) (t':=⟨w.heap.size,0,v+1,sz',cap'⟩) (by show t.v < v+1;omega)
          (.inr ⟨Q4 _,by rw [aBo];show w.heap.size < w.heap.size+1;omega⟩) (fun k hk _=>heap_alloc_old w.drew _ k hk) (.arr (v+1) sz' false ((l.drop o).take n++xs)) (fun ev=>by
           refine ⟨rfl,rfl,g5,by rw [hll];exact c1,by simp,cs',e,⟨_,Fz.zero _,heap_alloc_new w.drew _⟩,by show cs'.size=0+cap'*sz';omega,fun q cc hq => ?_⟩
           obtain ⟨k1,k2⟩:=hfl.2 q cc hq
           refine ⟨k1,fun j y hj => ?_⟩
           have hj':j < sz':=by rw [← k1];exact (Q0.1 hj).1
           have hql:q < ((l.drop o).take n++xs).length:=(Q0.1 hq).1
           have hlt:=aBT (sz:=sz') hql hj'
           rw [← hfl.1] at hlt
           have e1:cs'.getD (0+q*sz'+j) Go.undef=(od++usd).getD (q*sz'+j) Go.undef:=by
            rw [c2,Nat.zero_add]
            simp only [Array.getD_eq_getD_getElem?,Q2,List.getD]
            rw [Q5 hlt]
           show Rep B _ _ (Array.getD _ (0+q*sz'+j) _) y
           rw [e1]
           have hr0:=k2 j y hj
           exact hr0.evo ⟨ev.os,ev.tape,ev.output,ev.size,ev.keep,ev.ids⟩)
         refine ⟨_,_,_,c4,ev,hH',?_⟩
         rw [hll]
         exact .hsl i 0 _ cap' none _ _ ht' c1 (by show 0+cap'≤cap';omega) (by simp) (fun _=>by show 0+cap'=cap';omega) (fun _=>by simp) rfl
       ·cases hr
    ·cases hr
   ·cases hr
  ·cases hr
end
end Go.Proofs.Yteenffomgdfocaa.Ai
