/- The operations, one by one: the seventh part: copy, make, strings, fields, maps, lengths. -/
import Derived.Test.YteenffomgdfocaamCAi10
namespace Go.Proofs.Yteenffomgdfocaa.Ai
open Go Go.RowKit
open List renaming getElem?_eq_some_iff → Q0
open Nat renaming mul_le_mul_right → Q1
set_option linter.unusedVariables false
set_option linter.unusedSimpArgs false
section
variable {G : Pg} {B : Nat → Prop} {S : List Ent} {w : World} {h : aA0}
theorem aRx (hH:HeapRel G B S w h) {dT sT ty e sz:Nat} (hu:G.P.underlying dT=some (.slice e)) (hs:aAM G.P e=some sz) {vd vx:Value} {d x:AV} (hd:Rep B S w vd d) (hx:Rep B S w vx x)
  {xs : List (List AV)} (he : aAI h sz x = some xs) {r : AV} {h' : aA0} (hr : aLD h sz d xs = some (r, h')) : Ok G B S w ((Builtin.copy_ #[dT, sT] ty #[vd, vx]).run G.P w) h' r := by
 obtain ⟨inf,m1,m2,m3,m4⟩:=aAZ hs
 have h0:0 < sz:=by omega
 obtain ⟨el1,el2⟩:=aEW hH h0 hx he
 unfold aLD at hr
 split at hr
 ·rename_i i v o n c
  split at hr
  ·rename_i sz' xx l hg
   simp only at hr
   split at hr
   ·rename_i hcond
    obtain ⟨hsz,hon,hok⟩:=hcond
    cases hr
    subst hsz
    obtain ⟨t,cs,rty,g1,g2,g3,g4,g5,g6,g7,⟨fz,hz,g8⟩,g9,g10⟩:=aBA hH hg
    obtain ⟨A,cap,hv,q1,q2,q3,q4,q5⟩:=hd.hsl_inv g1 g3
    subst hv
    have hm:min xs.length n≤xs.length:=Nat.min_le_left _ _
    obtain ⟨us,hus,hflat⟩:=el2 (min xs.length n) hm
    have hml:(xs.take (min xs.length n)).length=min xs.length n:=by simp
    have hKsz:∀ q,q≤t.K→q*sz'≤t.K*sz':=fun q hq=>Q1 sz' hq
    have hle:t.base+o*sz'+us.length≤cs.size:=by
     rw [g9,hflat.1,hml,Nat.add_assoc,← Nat.add_mul]
     have:=hKsz (o+min xs.length n) (by omega);omega
    have hw:=aHu hH hg g1 g8 (o*sz') us hle (l.take o++xs.take (min xs.length n)++l.drop (o+min xs.length n)) (by simp;omega) (fun q cc hq=>by
     have hsp:=aEu l (xs.take (min xs.length n)) o q (by rw [hml];omega)
     rw [hml] at hsp
     rw [hsp] at hq
     by_cases a1:q < o
     ·rw [if_pos a1] at hq
      obtain ⟨k1,k2⟩:=g10 q cc hq
      refine ⟨k1,fun j y hj => ?_⟩
      have hj':j < sz':=by rw [← k1];exact (Q0.1 hj).1
      rw [if_pos (aBT a1 hj')]
      exact ⟨cc,hq,hj⟩
     ·rw [if_neg a1] at hq
      by_cases a2:q < o+min xs.length n
      ·rw [if_pos a2] at hq
       obtain ⟨k1,k2⟩:=hflat.2 _ cc hq
       refine ⟨k1,fun j y hj => ?_⟩
       have hj':j < sz':=by rw [← k1];exact (Q0.1 hj).1
       have h1:o*sz'≤q*sz':=Q1 sz' (by omega)
       have h2:=aBT (K:=o+min xs.length n) a2 hj'
       have h3:=hflat.1
       rw [hml] at h3
       rw [Nat.add_mul,← h3] at h2
       rw [if_neg (by omega),if_pos (by omega)]
       have e1:q*sz'+j - o*sz'=(q - o)*sz'+j:=by rw [Nat.sub_mul];omega
       rw [e1];exact k2 j y hj
      ·rw [if_neg a2] at hq
       obtain ⟨k1,k2⟩:=g10 q cc hq
       refine ⟨k1,fun j y hj => ?_⟩
       have h1:(o+min xs.length n)*sz'≤q*sz':=Q1 sz' (by omega)
       have h3:=hflat.1
       rw [hml] at h3
       rw [Nat.add_mul,← h3] at h1
       rw [if_neg (by omega),if_neg (by omega)]
       exact ⟨cc,hq,hj⟩)
    refine ⟨.int .i64 (min xs.length n:Nat),_,S,?_,hw.1,hw.2,.int _ _⟩
    have hmin:Nat.min xs.length n=min xs.length n:=rfl
    have hst:=aCA G.P t.b (t.base+o*sz') rty fz us 0 cs w g8 hz (by omega) (hflat.oneCell g5 hok)
    by_cases hc0:cap=0
    ·have hn0:min xs.length n=0:=by omega
     have hus0:us=[]:=by
      have h3:=hflat.1;rw [hml,hn0] at h3;simpa using h3
     subst hus0
     have hrow:w.setRow t.b (cs.toList.take (t.base+o*sz'+0)++[]++cs.toList.drop (t.base+o*sz'+0+([]:List Value).length)).toArray=w:=by
      have:=hst
      simp only [storeCells,Sem.run_pure] at this
      have e:=congrArg (fun r=>match r with | Result.ok _ w'=>w' | _=>w) this
      exact e.symm
     rw [hrow]
     unfold Builtin.copy_
     simp [run_underlying hu,el1,m4,hmin,hus,storeCells,goInt]
    ·have hA:=q5 hc0
     subst hA
     unfold Builtin.copy_
     rw [g4]
     simp [run_underlying hu,el1,m4,hmin,hus,goInt,hst]
   ·cases hr
  ·cases hr
 ·cases hr
theorem aMY (hH:HeapRel G B S w h) {ty:TypeId} (hu:G.P.underlying ty=some .string) {vx:Value} {x z:AV} (hx:Rep B S w vx x) {lo hi:Option AV} {ol oh:Option Operand} {a:Act}
  (hlo:(ol=none∧lo=none)∨∃ y ay,ol=some y∧lo=some ay∧Rep B S w (a.eval y) ay) (hhi:(oh=none∧hi=none)∨∃ y ay,oh=some y∧hi=some ay∧Rep B S w (a.eval y) ay)
  (hr:aHM x lo hi=some z):Ok G B S w ((Instr.sliceAt ty vx (ol.map a.eval) (oh.map a.eval) none).run G.P w) h z:=by
 unfold aHM at hr
 split at hr
 ·rename_i s
  obtain ⟨bs,rfl,rfl⟩:=hx.str_inv
  split at hr
  ·rename_i p q m hb
   cases hr
   have hbl:bs.data.toList.length=bs.size:=Array.length_toList
   obtain ⟨k1,k2,k3,k4,k5,k6⟩:=aBy (G:=G) (w:=w) (B:=B) (S:=S) (isS:=false) (cap:=bs.size) (om:=none) (by rw [hbl];exact Nat.le_refl _) hlo hhi (.inl ⟨rfl,rfl⟩) hb
   rw [hbl] at k6
   refine Ok.same hH (v:=.string (bs.extract p q)) ?_ (.str' ?_)
   ·simp only [Option.map_none] at k6
    simp [Instr.sliceAt,Instr.slice,run_underlying hu,k6]
   ·rw [Lib.extract_data]
    apply List.ext_getElem?
    intro j
    simp only [List.getElem?_take,List.getElem?_drop]
    split <;> split <;> first | rfl | omega
  ·cases hr
 ·cases hr
theorem aLE {ty:TypeId} {n:Nat} {g:Bool} (hs:aAM G.P ty=some n) (ha:aFO G.P ty=some g) {vs:Array Value} {l:List AV} (hv:aAx B S w vs l) {off:Nat} {x:AV} (hr:(part l off n).bind (aCU g)=some x) :
  ∃ v,(Go.part ty vs off).run G.P w=.ok v w∧Rep B S w v x:=by
 obtain ⟨i,hi,hi2,h0,hsz⟩:=aAZ hs
 cases hp:part l off n with
 | none=>simp [hp] at hr
 | some cs =>
  simp [hp] at hr
  obtain ⟨p1,p2,p3⟩:=aKe hp
  unfold aCU at hr
  split at hr
  ·rename_i hg
   cases hr
   refine ⟨.agg (vs.extract off (off+n)),?_,.agg _ _ ?_ fun j y hj => ?_⟩
   ·unfold Go.part;rw [Sem.run_bind,aI5 ha];simp [hg,hsz]
   ·have:=hv.1;simp;omega
   ·obtain ⟨q1,q2⟩:=p3 j y hj
    have:=hv.2 _ _ q2
    have hlt:off+j < vs.size:=by rw [hv.1];omega
    have e1:(vs.extract off (off+n)).getD j Go.undef=vs.getD (off+j) Go.undef:=by
     simp only [Array.getD_eq_getD_getElem?,Array.getElem?_extract]
     rw [if_pos (by omega)]
    rw [e1];exact this
  ·rename_i hg
   split at hr
   ·cases hr
    rename_i y
    obtain ⟨q1,q2⟩:=p3 0 x (by simp)
    have:=hv.2 _ _ q2
    rw [Nat.add_zero] at q2 this
    have hlt:off < vs.size:=by rw [hv.1];exact (Q0.1 q2).1
    have e1:vs[off]?=some vs[off]:=by simp [hlt]
    have e2:vs.getD off Go.undef=vs[off]:=by simp [hlt]
    rw [e2] at this
    refine ⟨vs[off],?_,this⟩
    unfold Go.part;rw [Sem.run_bind,aI5 ha];simp [hg,e1]
   ·cases hr
theorem aQl (hH:HeapRel G B S w h) {s f off n:Nat} {g:Bool} (hf:aFN G.P s f=some (off,n,g)) {vx:Value} {l:List AV} (hx:Rep B S w vx (.agg l)) {x:AV} (hr:(part l off n).bind (aCU g)=some x) :
  Ok G B S w ((Instr.field s vx f).run G.P w) h x:=by
 obtain ⟨vs,rfl,hv⟩:=hx.agg_inv
 obtain ⟨fs,fd,k1,k2,k3,k4,k5⟩:=aHp hf
 obtain ⟨v,h1,h2⟩:=aLE k4 k5 hv hr
 refine Ok.same hH ?_ h2
 simp [Instr.field,run_underlying k1,k2,asAgg,k3,h1]
theorem aNa (hH:HeapRel G B S w h) {ty e len n:Nat} {g:Bool} (hu:G.P.underlying ty=some (.array len e)) (hs:aAM G.P e=some n) (ha:aFO G.P e=some g) {vx:Value} {l:List AV} (hx:Rep B S w vx (.agg l))
  {k:IntKind} {j:Int} (h0:0≤j) (hj:j < (len:Int)) {x:AV} (hr:(part l (j.toNat*n) n).bind (aCU g)=some x):Ok G B S w ((Instr.index ty vx (.int k j)).run G.P w) h x:=by
 obtain ⟨vs,rfl,hv⟩:=hx.agg_inv
 obtain ⟨i,hi,hi2,h00,hsz⟩:=aAZ hs
 obtain ⟨v,h1,h2⟩:=aLE hs ha hv hr
 refine Ok.same hH ?_ h2
 simp [Instr.index,run_underlying hu,asIntOf,h0,hj,hsz,h1]
theorem aN8 (hH:HeapRel G B S w h) {ty:TypeId} (hu:G.P.underlying ty=some .string) {vx:Value} {s:List UInt8} (hx:Rep B S w vx (.str s)) {k:IntKind} {j:Int} (h0:0≤j) {b:UInt8} (hb:s[j.toNat]?=some b) :
  Ok G B S w ((Instr.index ty vx (.int k j)).run G.P w) h (.int .u8 b.toNat):=by
 obtain ⟨bs,rfl,rfl⟩:=hx.str_inv
 have hg:bs[j.toNat]?=some b:=by
  have hlt:j.toNat < bs.data.toList.length:=(Q0.1 hb).1
  have hlt':j.toNat < bs.size:=by rw [Array.length_toList] at hlt;exact hlt
  have e1:bs[j.toNat]?=some (bs[j.toNat]'hlt'):=by simp [hlt']
  rw [e1]
  have e2:=(Q0.1 hb).2
  rw [← e2]
  simp;rfl
 refine Ok.same hH (v:=.int .u8 b.toNat) ?_ (.int _ _)
 simp [Instr.index,run_underlying hu,asIntOf,h0,hg]
theorem aIL {q:Sc} {kt:TypeId} (hq:aBS G.P kt=some q) {vk:Value} {k:AV} (hk:Rep B S w vk k) (hok:aDO q k=true) (b:Bool) (n:Nat):(Instr.checkKey b (n+1) kt vk).run G.P w=.ok () w:=by
 have h1:=aFa hq
 unfold aDO at hok
 split at hok <;> first | (cases hok;done) | skip
 ·have e:=hk.int_inv;subst e;obtain ⟨kk,hu⟩:=h1
  simp [Instr.checkKey,run_underlying hu]
 ·obtain ⟨bs,rfl,_⟩:=hk.str_inv
  simp only at h1
  simp [Instr.checkKey,run_underlying h1]
 ·have e:=hk.bool_inv;subst e
  simp only at h1
  simp [Instr.checkKey,run_underlying h1]
theorem aJ7 {q:Sc} {kt:TypeId} {d:TypeDesc} (hq:aBS G.P kt=some q) (hd:G.P.underlying kt=some d) {vk vk':Value} {k k':AV} (hk:Rep B S w vk k) (hk':Rep B S w vk' k') {b:Bool} (hr:aEZ q k k'=some b) :
  Instr.sameNow d vk vk'=some b:=by
 have h1:=aFa hq
 unfold aEZ at hr
 split at hr
 ·have e1:=hk.int_inv;have e2:=hk'.int_inv;subst e1 e2
  obtain ⟨kk,hu⟩:=h1
  rw [hd] at hu;cases hu
  split at hr
  ·rename_i hkk;cases hr;simp [Instr.sameNow,hkk]
  ·cases hr
 ·obtain ⟨a,rfl,rfl⟩:=hk.str_inv;obtain ⟨c,rfl,rfl⟩:=hk'.str_inv
  simp only at h1
  rw [hd] at h1;cases h1
  cases hr
  simp only [Instr.sameNow]
  rw [beq_toListBytes,ByteArray.toList_eq,ByteArray.toList_eq]
 ·have e1:=hk.bool_inv;have e2:=hk'.bool_inv;subst e1 e2
  simp only at h1
  rw [hd] at h1;cases h1
  cases hr
  rfl
 ·cases hr
theorem aMp {q:Sc} {kt:TypeId} {d:TypeDesc} (hq:aBS G.P kt=some q) (hd:G.P.underlying kt=some d) {vk:Value} {k:AV} (hk:Rep B S w vk k) :
  ∀ (l:List (AV × AV)) (es:List MapEntry) (i:Nat),es.length=l.length→(∀ (j:Nat) (k' x:AV),l[j]?=some (k',x)→∃ en:MapEntry,es[j]?=some en∧Rep B S w en.key k'∧Rep B S w en.val x) →
   ∀ r,aBM q k l i=some r→∃ r',Instr.findNow d vk es i=some r' ∧
    ((r=none∧r'=none)∨∃ j x en,r=some (i+j,x)∧r'=some (i+j,en.val)∧es[j]?=some en∧(∃ k',l[j]?=some (k',x)∧aEZ q k k'=some true)∧Rep B S w en.val x)
 | [],[],i,_,_,r,hr=>by cases hr;exact ⟨none,rfl,.inl ⟨rfl,rfl⟩⟩
 | [],_::_,i,hl,_,r,hr=>by simp at hl
 | _::_,[],i,hl,_,r,hr=>by simp at hl
 | (k',x)::l,en::es,i,hl,hall,r,hr=>by
  obtain ⟨en',e1,e2,e3⟩:=hall 0 k' x rfl
  simp at e1;subst e1
  simp only [aBM] at hr
  split at hr
  ·rename_i hq1
   cases hr
   have hs:=aJ7 hq hd hk e2 hq1
   exact ⟨some (i,en.val),by simp [Instr.findNow,hs],.inr ⟨0,x,en,rfl,rfl,rfl,⟨k',rfl,hq1⟩,e3⟩⟩
  ·rename_i hq1
   have hs:=aJ7 hq hd hk e2 hq1
   obtain ⟨r',f1,f2⟩:=aMp hq hd hk l es (i+1) (by simpa using hl) (fun j k'' x' hj=>by have:=hall (j+1) k'' x' (by simpa using hj);simpa using this) r hr
   refine ⟨r',by simp [Instr.findNow,hs,f1],?_⟩
   rcases f2 with ⟨g1,g2⟩ | ⟨j,x',en',g1,g2,g3,⟨k'',g4,g5⟩,g6⟩
   ·exact .inl ⟨g1,g2⟩
   ·refine .inr ⟨j+1,x',en',?_,?_,by simpa using g3,⟨k'',by simpa using g4,g5⟩,g6⟩
    ·rw [g1];congr 2;omega
    ·rw [g2];congr 2;omega
  ·cases hr
theorem aH2 {q:Sc} {kt:TypeId} (hq:aBS G.P kt=some q) {vk:Value} {k:AV} (hk:Rep B S w vk k) {l:List (AV × AV)} {es:Array MapEntry} (hl:es.size=l.length)
  (hall:∀ (j:Nat) (k' x:AV),l[j]?=some (k',x)→∃ en:MapEntry,es[j]?=some en∧Rep B S w en.key k'∧Rep B S w en.val x) {r:Option (Nat × AV)} (hr:aBM q k l 0=some r) :
  ∃ r',(Instr.findKey kt vk es.toList).run G.P w=.ok r' w ∧
   ((r=none∧r'=none)∨∃ j x en,r=some (j,x)∧r'=some (j,en.val)∧es[j]?=some en∧(∃ k',l[j]?=some (k',x)∧aEZ q k k'=some true)∧Rep B S w en.val x):=by
 have hd:∃ d,G.P.underlying kt=some d:=by
  have:=aFa hq
  cases q
  ·obtain ⟨kk,hu⟩:=this;exact ⟨_,hu⟩
  ·exact ⟨_,this⟩
  ·exact ⟨_,this⟩
 obtain ⟨d,hd⟩:=hd
 obtain ⟨r',f1,f2⟩:=aMp hq hd hk l es.toList 0 (by simpa using hl) (fun j k' x hj=>by obtain ⟨en,e1,e2⟩:=hall j k' x hj;exact ⟨en,by simpa using e1,e2⟩) r hr
 refine ⟨r',by simp [Instr.findKey,run_underlying hd,f1],?_⟩
 rcases f2 with ⟨g1,g2⟩ | ⟨j,x',en',g1,g2,g3,g4,g6⟩
 ·exact .inl ⟨g1,g2⟩
 ·exact .inr ⟨j,x',en',by simpa using g1,by simpa using g2,by simpa using g3,g4,g6⟩
end
end Go.Proofs.Yteenffomgdfocaa.Ai
