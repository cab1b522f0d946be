/- The operations, one by one: the third part: reckoning, comparing, slicing, looking up. -/
import Derived.Test.YteenffomgdfocaamCAi6
import Derived.Laws.StructEq
namespace Go.Proofs.Yteenffomgdfocaa.Ai
open Go Go.RowKit
set_option linter.unusedVariables false
set_option linter.unusedSimpArgs false
theorem aJp:∀ (x y:List UInt8),Op.bytesLess x y=aEY x y
 | _,[]=>by cases ‹List UInt8› <;> rfl
 | [],_::_=>rfl
 | a::x,b::y=>by simp only [Op.bytesLess,aEY,aJp x y]
section
variable {G : Pg} {B : Nat → Prop} {S : List Ent} {w : World} {h : aA0}
theorem aRF {op:BinOp} {k:IntKind} {a b:Int} {x:AV} (hs:¬ (op=.shl∨op=.shr)) (hr:aFY op k a b=some x) (ty:TypeId):∃ v,(binOp op ty (.int k a) (.int k b)).run G.P w=.ok v w∧Rep B S w v x:=by
 have hk:∀ (s t:Sem Value),(if k≠k then s else t)=t:=fun s t=>if_neg (by simp)
 cases op <;> simp only [aFY] at hr
 case add=>cases hr;exact ⟨_,congrArg (fun z:Sem Value=>z.run G.P w) (hk _ (Op.intArith .add k a b)),.int _ _⟩
 case sub=>cases hr;exact ⟨_,congrArg (fun z:Sem Value=>z.run G.P w) (hk _ (Op.intArith .sub k a b)),.int _ _⟩
 case mul=>cases hr;exact ⟨_,congrArg (fun z:Sem Value=>z.run G.P w) (hk _ (Op.intArith .mul k a b)),.int _ _⟩
 case quo =>
  split at hr
  ·cases hr
  ·rename_i h0;cases hr;refine ⟨_,?_,.int _ _⟩;simp [binOp,Op.intDiv,h0]
 case rem =>
  split at hr
  ·cases hr
  ·rename_i h0;cases hr;refine ⟨_,?_,.int _ _⟩;simp [binOp,Op.intDiv,h0]
 case and=>cases hr;exact ⟨_,congrArg (fun z:Sem Value=>z.run G.P w) (hk _ (Op.intBits .and k a b)),.int _ _⟩
 case or=>cases hr;exact ⟨_,congrArg (fun z:Sem Value=>z.run G.P w) (hk _ (Op.intBits .or k a b)),.int _ _⟩
 case xor=>cases hr;exact ⟨_,congrArg (fun z:Sem Value=>z.run G.P w) (hk _ (Op.intBits .xor k a b)),.int _ _⟩
 case andNot=>cases hr;exact ⟨_,congrArg (fun z:Sem Value=>z.run G.P w) (hk _ (Op.intBits .andNot k a b)),.int _ _⟩
 case shl=>cases hr
 case shr=>cases hr
 all_goals (cases hr;refine ⟨_,?_,.bool _⟩;simp [binOp,Op.intCmp])
theorem aPC {op:BinOp} {k k':IntKind} {a b:Int} {x:AV} (hr:aMk op k a b=some x) (ty:TypeId):∃ v,(binOp op ty (.int k a) (.int k' b)).run G.P w=.ok v w∧Rep B S w v x:=by
 unfold aMk at hr
 split at hr
 ·cases hr
 ·rename_i h0
  cases op <;> simp only at hr <;> first
   | (cases hr;exact ⟨_,by simp [binOp,Op.shift,h0],.int _ _⟩)
   | cases hr
theorem aRB {op:BinOp} {a b:ByteArray} {x:AV} (hr:aOw op a.data.toList b.data.toList=some x) (ty:TypeId):∃ v,(binOp op ty (.string a) (.string b)).run G.P w=.ok v w∧Rep B S w v x:=by
 have ea:=ByteArray.toList_eq a
 have eb:=ByteArray.toList_eq b
 cases op <;> simp only [aOw] at hr
 case add =>
  split at hr
  ·rename_i hl
   cases hr
   have hn:¬ (((a.size+b.size:Nat):Int) > IntKind.i64.max):=by
    have e1:a.data.toList.length=a.size:=Array.length_toList
    have e2:b.data.toList.length=b.size:=Array.length_toList
    have e3:IntKind.i64.max=9223372036854775807:=rfl
    rw [e1,e2] at hl
    rw [e3];omega
   refine ⟨.string (a++b),?_,.str' (by simp)⟩
   simp only [binOp,Op.stringOp]
   rw [if_neg hn];rfl
  ·cases hr
 all_goals first
  | (cases hr;exact ⟨_,by simp [binOp,Op.stringOp,ea,eb,aJp],.bool _⟩)
  | cases hr
theorem aH6 (op:BinOp) (ty:TypeId) (x y:Operand) {a b:Value} (h1:a≠.nilIface∨b≠.nilIface) (h2:G.P.eqGuardType G.P.depth ty=false∨(∀ l,a≠.agg l)∨∀ l,b≠.agg l) :
  (eqGuard op ty x y a b).run G.P w=.ok () w:=by
 cases op <;> try rfl
 all_goals
  unfold eqGuard
  simp only [Bool.not_true,Bool.false_eq_true,if_false]
  split
  ·simp at h1
  ·rcases h2 with h | h | h
   ·simp [h]
   ·exact absurd rfl (h _)
   ·exact absurd rfl (h _)
  ·rfl
theorem aFa {P:Program} {t:TypeId} {q:Sc} (h:aBS P t=some q):match q with | .int=>∃ k,P.underlying t=some (.int k) | .str=>P.underlying t=some .string | .bool=>P.underlying t=some .bool:=by
 unfold aBS at h
 split at h <;> first | (cases h;first | exact ⟨_,by assumption⟩ | assumption) | cases h
theorem aRG {q:Sc} {ty:TypeId} (hq:aBS G.P ty=some q) {vx vy:Value} {x y:AV} (hx:Rep B S w vx x) (hy:Rep B S w vy y) {b:Bool} (hr:aEZ q x y=some b) (d:Nat) :
  (Op.equalIn (d+1) ty vx vy).run G.P w=.ok b w:=by
 have hk:=aFa hq
 unfold aEZ at hr
 split at hr
 ·have e1:=hx.int_inv;have e2:=hy.int_inv;subst e1 e2
  split at hr
  ·rename_i hkk;subst hkk;cases hr
   obtain ⟨k',hu⟩:=hk
   exact run_equalIn_int w d ty _ k' _ _ hu
  ·cases hr
 ·obtain ⟨a,rfl,rfl⟩:=hx.str_inv;obtain ⟨c,rfl,rfl⟩:=hy.str_inv
  cases hr
  have:=run_equalIn_string (P:=G.P) w d ty a c hk
  rw [this,ByteArray.toList_eq,ByteArray.toList_eq]
 ·have e1:=hx.bool_inv;have e2:=hy.bool_inv;subst e1 e2
  cases hr
  exact run_equalIn_bool w d ty _ _ hk
 ·cases hr
theorem aNV (d:Nat):∀ (fs:List Field) (qs:List Sc) (i:Nat) (xs ys:Array Value) (lx ly:List AV),aEM G.P i fs=some qs→aAx B S w xs (lx)→aAx B S w ys ly→∀ b,aIT qs (lx.drop i) (ly.drop i)=some b →
  (Op.eqFields (d+1) xs ys fs).run G.P w=.ok b w
 | [],qs,i,xs,ys,lx,ly,hq,hx,hy,b,hr=>by
  simp only [aEM] at hq;cases hq
  have:b=true:=by
   cases h1:lx.drop i <;> cases h2:ly.drop i <;> simp [h1,h2,aIT] at hr
   first | exact hr | exact hr.symm
  subst this
  simp [Op.eqFields]
 | f::fs,qs,i,xs,ys,lx,ly,hq,hx,hy,b,hr=>by
  simp only [aEM] at hq
  split at hq
  ·rename_i q qs' h1 h2
   split at hq
   ·cases hq
   ·rename_i hn
    cases hq
    simp only [Bool.or_eq_true,not_or,beq_iff_eq,bne_iff_ne,ne_eq,Decidable.not_not] at hn
    obtain ⟨hname,hoff⟩:=hn
    cases e1:lx.drop i with
    | nil=>simp [e1,aIT] at hr
    | cons x lx' =>
     cases e2:ly.drop i with
     | nil=>simp [e1,e2,aIT] at hr
     | cons y ly' =>
      rw [e1,e2] at hr
      simp only [aIT] at hr
      split at hr
      ·rename_i b1 b2 r1 r2
       cases hr
       have gx:lx[i]?=some x:=by rw [← List.head?_drop,e1];rfl
       have gy:ly[i]?=some y:=by rw [← List.head?_drop,e2];rfl
       have rx:=hx.2 i x gx
       have ry:=hy.2 i y gy
       have hagg:(isAgg f.type).run G.P w=.ok false w:=by
        have hk:=aFa h1
        unfold isAgg
        cases q
        ·obtain ⟨k,hu⟩:=hk;simp [run_underlying hu]
        ·simp only at hk;simp [run_underlying hk]
        ·simp only at hk;simp [run_underlying hk]
       obtain ⟨ux,ex⟩:∃ u,xs[i]?=some u:=⟨xs[i]'(by rw [hx.1];exact (List.getElem?_eq_some_iff.1 gx).1),by simp⟩
       obtain ⟨uy,ey⟩:∃ u,ys[i]?=some u:=⟨ys[i]'(by rw [hy.1];exact (List.getElem?_eq_some_iff.1 gy).1),by simp⟩
       have ex':xs.getD i Go.undef=ux:=by simp [ex]
       have ey':ys.getD i Go.undef=uy:=by simp [ey]
       rw [ex'] at rx
       rw [ey'] at ry
       have px:(Go.part f.type xs f.offset).run G.P w=.ok ux w:=by
        unfold Go.part;rw [Sem.run_bind,hagg];simp [hoff,ex]
       have py:(Go.part f.type ys f.offset).run G.P w=.ok uy w:=by
        unfold Go.part;rw [Sem.run_bind,hagg];simp [hoff,ey]
       have heq:=aRG (G:=G) h1 rx ry r1 d
       have d1:lx'=lx.drop (i+1):=by rw [← List.drop_drop,e1];rfl
       have d2:ly'=ly.drop (i+1):=by rw [← List.drop_drop,e2];rfl
       rw [d1,d2] at r2
       have ih:=aNV d fs qs' (i+1) xs ys lx ly h2 hx hy b2 r2
       rw [Op.eqFields]
       simp only [ne_eq,hname,not_false_eq_true,if_true,Sem.run_bind,px,py,heq,Result.andThen_ok]
       cases b1
       ·simp
       ·simpa using ih
      ·cases hr
  ·cases hq
theorem aES {ty e:TypeId} (hu:G.P.underlying ty=some (.pointer e)) (d:Nat) (b:Option Addr):(Op.equalIn (d+1) ty (.pointer none) (.pointer b)).run G.P w=.ok b.isNone w:=by
 simp [Op.equalIn,run_underlying hu]
theorem aER {ty e:TypeId} (hu:G.P.underlying ty=some (.pointer e)) (d:Nat) (b:Addr):(Op.equalIn (d+1) ty (.pointer (some b)) (.pointer none)).run G.P w=.ok false w:=by
 simp [Op.equalIn,run_underlying hu]
theorem aEQ {ty e:TypeId} (hu:G.P.underlying ty=some (.slice e)) (d:Nat) (b:Option Addr) (n c m k:Nat):(Op.equalIn (d+1) ty (.slice none n c) (.slice b m k)).run G.P w=.ok b.isNone w:=by
 simp [Op.equalIn,run_underlying hu]
theorem aEP {ty e:TypeId} (hu:G.P.underlying ty=some (.slice e)) (d:Nat) (b:Addr) (n c m k:Nat):(Op.equalIn (d+1) ty (.slice (some b) n c) (.slice none m k)).run G.P w=.ok false w:=by
 simp [Op.equalIn,run_underlying hu]
theorem aEV {ty:TypeId} {a b:Array TypeId} {v:Bool} (hu:G.P.underlying ty=some (.func a b v)) (d:Nat):(Op.equalIn (d+1) ty .nilFunc .nilFunc).run G.P w=.ok true w:=by
 simp [Op.equalIn,run_underlying hu]
theorem aEU {ty:TypeId} {a b:Array TypeId} {v:Bool} (hu:G.P.underlying ty=some (.func a b v)) (d:Nat) (f:Fn) (x y:Array Value):(Op.equalIn (d+1) ty .nilFunc (.func f x y)).run G.P w=.ok false w:=by
 simp [Op.equalIn,run_underlying hu]
theorem aET {ty:TypeId} {a b:Array TypeId} {v:Bool} (hu:G.P.underlying ty=some (.func a b v)) (d:Nat) (f:Fn) (x y:Array Value):(Op.equalIn (d+1) ty (.func f x y) .nilFunc).run G.P w=.ok false w:=by
 simp [Op.equalIn,run_underlying hu]
theorem aSn {ty:TypeId} {q:EqK} (hq:aFW G.P ty=some q) {vx vy:Value} {x y:AV} (hx:Rep B S w vx x) (hy:Rep B S w vy y) {b:Bool} (hr:aeq q x y=some b) :
    (Op.equal ty vx vy).run G.P w=.ok b w:=by
  unfold Op.equal Op.maxDepth
  unfold aFW at hq
  unfold aeq at hr
  split at hr
  · have e1:=hx.bool_inv;have e2:=hy.bool_inv;subst e1 e2
    cases hr
    split at hq <;> simp_all
    · exact run_equalIn_bool w 9999 ty _ _ (by assumption)
  · rename_i qs xs ys
    obtain ⟨v1,rfl,r1⟩:=hx.agg_inv
    obtain ⟨v2,rfl,r2⟩:=hy.agg_inv
    split at hq <;> first | (exfalso;simp at hq;done) | skip
    rename_i fs hu
    split at hq
    · cases hq
    · rename_i hg
      simp only [Bool.or_eq_true,not_or,Bool.not_eq_true] at hg
      cases hf:aEM G.P 0 fs.toList with
      | none=>simp [hf] at hq
      | some qs' =>
        simp [hf] at hq;subst hq
        have hfo:G.P.fieldsOf ty=fs:=by simp [Program.fieldsOf,hu]
        rw [run_equalIn_struct (P:=G.P) w 9999 ty v1 v2 (by rw [hfo];exact hu) hg.2,hfo]
        exact aNV 9998 fs.toList qs' 0 v1 v2 xs ys hf r1 r2 b (by simpa using hr)
  all_goals first
    | cases hr;done
    | (split at hq <;> first | (exfalso;simp at hq;done) | (exfalso;split at hq <;> simp at hq;done) | skip
       rename_i hu
       cases hr
       first
       | (have e1:=hx.nilP_inv;have e2:=hy.nilP_inv;subst e1 e2;first | exact aES hu _ _ | exact aER hu _ _ | exact aEQ hu _ _ _ _ _ _ | exact aEP hu _ _ _ _ _ _ | exact aEV hu _ | exact aEU hu _ _ _ _ | exact aET hu _ _ _ _)
       | (have e1:=hx.nilP_inv;obtain ⟨a,e2⟩:=hy.ptr_shape;subst e1 e2;first | exact aES hu _ _ | exact aER hu _ _ | exact aEQ hu _ _ _ _ _ _ | exact aEP hu _ _ _ _ _ _ | exact aEV hu _ | exact aEU hu _ _ _ _ | exact aET hu _ _ _ _)
       | (have e1:=hy.nilP_inv;obtain ⟨a,e2⟩:=hx.ptr_shape;subst e1 e2;first | exact aES hu _ _ | exact aER hu _ _ | exact aEQ hu _ _ _ _ _ _ | exact aEP hu _ _ _ _ _ _ | exact aEV hu _ | exact aEU hu _ _ _ _ | exact aET hu _ _ _ _)
       | (have e1:=hx.nilP_inv;have e2:=hy.vptr_inv;subst e1;cases e2;first | exact aES hu _ _ | exact aER hu _ _ | exact aEQ hu _ _ _ _ _ _ | exact aEP hu _ _ _ _ _ _ | exact aEV hu _ | exact aEU hu _ _ _ _ | exact aET hu _ _ _ _)
       | (have e1:=hy.nilP_inv;have e2:=hx.vptr_inv;subst e1;cases e2;first | exact aES hu _ _ | exact aER hu _ _ | exact aEQ hu _ _ _ _ _ _ | exact aEP hu _ _ _ _ _ _ | exact aEV hu _ | exact aEU hu _ _ _ _ | exact aET hu _ _ _ _)
       | (have e1:=hx.nilS_inv;have e2:=hy.nilS_inv;subst e1 e2;first | exact aES hu _ _ | exact aER hu _ _ | exact aEQ hu _ _ _ _ _ _ | exact aEP hu _ _ _ _ _ _ | exact aEV hu _ | exact aEU hu _ _ _ _ | exact aET hu _ _ _ _)
       | (have e1:=hy.nilS_inv;obtain ⟨a,cap,e2⟩:=hx.hsl_shape;subst e1 e2;first | exact aES hu _ _ | exact aER hu _ _ | exact aEQ hu _ _ _ _ _ _ | exact aEP hu _ _ _ _ _ _ | exact aEV hu _ | exact aEU hu _ _ _ _ | exact aET hu _ _ _ _)
       | (have e1:=hx.nilS_inv;obtain ⟨a,cap,e2⟩:=hy.hsl_shape;subst e1 e2;first | exact aES hu _ _ | exact aER hu _ _ | exact aEQ hu _ _ _ _ _ _ | exact aEP hu _ _ _ _ _ _ | exact aEV hu _ | exact aEU hu _ _ _ _ | exact aET hu _ _ _ _)
       | (have e1:=hy.nilS_inv;have e2:=hx.vsl_inv;subst e1;cases e2;first | exact aES hu _ _ | exact aER hu _ _ | exact aEQ hu _ _ _ _ _ _ | exact aEP hu _ _ _ _ _ _ | exact aEV hu _ | exact aEU hu _ _ _ _ | exact aET hu _ _ _ _)
       | (have e1:=hx.nilS_inv;have e2:=hy.vsl_inv;subst e1;cases e2;first | exact aES hu _ _ | exact aER hu _ _ | exact aEQ hu _ _ _ _ _ _ | exact aEP hu _ _ _ _ _ _ | exact aEV hu _ | exact aEU hu _ _ _ _ | exact aET hu _ _ _ _)
       | (have e1:=hx.nilF_inv;have e2:=hy.nilF_inv;subst e1 e2;first | exact aES hu _ _ | exact aER hu _ _ | exact aEQ hu _ _ _ _ _ _ | exact aEP hu _ _ _ _ _ _ | exact aEV hu _ | exact aEU hu _ _ _ _ | exact aET hu _ _ _ _)
       | (have e1:=hx.nilF_inv;obtain ⟨f',v1,v2,e2⟩:=hy.fn_shape;subst e1 e2;first | exact aES hu _ _ | exact aER hu _ _ | exact aEQ hu _ _ _ _ _ _ | exact aEP hu _ _ _ _ _ _ | exact aEV hu _ | exact aEU hu _ _ _ _ | exact aET hu _ _ _ _)
       | (have e1:=hy.nilF_inv;obtain ⟨f',v1,v2,e2⟩:=hx.fn_shape;subst e1 e2;first | exact aES hu _ _ | exact aER hu _ _ | exact aEQ hu _ _ _ _ _ _ | exact aEP hu _ _ _ _ _ _ | exact aEV hu _ | exact aEU hu _ _ _ _ | exact aET hu _ _ _ _))
end
end Go.Proofs.Yteenffomgdfocaa.Ai
