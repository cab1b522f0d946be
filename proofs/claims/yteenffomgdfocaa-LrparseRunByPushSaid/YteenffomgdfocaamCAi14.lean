/- All operations together. -/
import Derived.Test.YteenffomgdfocaamCAi13
import Derived.IntWalk
import Derived.Laws.IdiomStrings
namespace Go.Proofs.Yteenffomgdfocaa.Ai
open Go Go.RowKit
open List renaming getElem?_eq_some_iff → Q0, replicate → Q1
set_option linter.unusedVariables false
set_option linter.unusedSimpArgs false
section
variable {G : Pg} {B : Nat → Prop} {S : List Ent} {w : World} {h : aA0}
theorem aOd (hH:HeapRel G B S w h) {t e:TypeId} {z:List AV} {n bytes:Nat} (hu:G.P.underlying t=some (.slice e)) (hs:aAM G.P e=some n) (hb:aDY G.P e=some bytes) (hz:aBY G.P e=some z)
  {k k':IntKind} {l c:Int} (hl:0≤l) (hlc:l≤c) (hc:c*(bytes+1)≤70368744177664) :
  Ok G B S w ((Instr.makeSlice t (.int k l) (.int k' c)).run G.P w) (h++[.arr 0 n true (Q1 c.toNat z)]) (.hsl h.length 0 0 l.toNat none):=by
 obtain ⟨i,v,z1,z2,z3,z4,z5,z6,z7⟩:=aEf (w:=w) (I:=imm B S) hz
 obtain ⟨inf,q1,q2,q3,q4⟩:=aAZ hs
 obtain ⟨inf',b1,b2⟩:=aHq hb
 rw [q1] at b1 z1;cases b1;cases z1
 have hvz:v.cells.size=n:=by omega
 have hzn:z.length=n:=by omega
 have hcb:c≤70368744177664:=by
  have:c*1≤c*(bytes+1):=Int.mul_le_mul_of_nonneg_left (by omega) (by omega)
  omega
 have hw1:IntKind.i64.wrap l=l:=IntWalk.i64_in _ (by omega)
 have hw2:IntKind.i64.wrap c=c:=IntWalk.i64_in _ (by omega)
 have hbc:¬ ((bytes:Int)*c > 2 ^ 48):=by
  have:c*(bytes+1)=(bytes:Int)*c+c:=by rw [Int.mul_add,Int.mul_one,Int.mul_comm]
  omega
 have hti:(typeInfo e).run G.P w=.ok i w:=by simp [typeInfo,q1]
 have hask:∀ (q:Nat) w',(askRoom q).run G.P w'=.ok () w':=fun q w'=>by
  unfold askRoom;split <;> rfl
 have hrows:∃ cs:Array Value,cs=(Array.range (c.toNat*n)).map (fun j=>v.cells[j % v.cells.size]!):=⟨_,rfl⟩
 obtain ⟨cs,hcs⟩:=hrows
 have hcsz:cs.size=c.toNat*n:=by rw [hcs];simp
 have run:(Instr.makeSlice t (.int k l) (.int k' c)).run G.P w=.ok (.slice (some ⟨w.heap.size,0,none⟩) l.toNat c.toNat) (w.alloc (.cells cs e)):=by
  have htl:(decide (c < 0) || decide ((i.bytes:Int)*c > 2 ^ 48))=false:=by
   rw [b2];simp only [Bool.or_eq_false_iff,decide_eq_false_iff_not];exact ⟨by omega,hbc⟩
  have hcond:((((decide (c < 0) || decide ((i.bytes:Int)*c > 2 ^ 48)) || decide (l < 0)) || decide (l > c))=true)=False:=by
   rw [htl];simp;omega
  unfold Instr.makeSlice
  rw [Sem.run_bind,run_underlying hu]
  simp only [Result.andThen_ok,Sem.run_bind,asInt,asIntOf,Sem.run_pure,hti,hw1,hw2]
  by_cases h00:c.toNat*n=0
  ·have e1 : ((Array.range 0).map (fun j => (#[] : Array Value)[j % (#[] : Array Value).size]!)) = #[] := by simp
   have e2 : cs = #[] := by rw [hcs, h00]; simp
   rw [if_neg (by rw [hcond];exact id)]
   simp only [Sem.run_bind,hask,Result.andThen_ok,q4]
   rw [if_pos h00,h00]
   simp only [Sem.run_pure,Sem.run_bind,Result.andThen_ok]
   rw [e1,e2]
   simp [newRow]
  ·rw [if_neg (by rw [hcond];exact id)]
   simp only [Sem.run_bind,hask,Result.andThen_ok,q4]
   rw [if_neg h00]
   simp only [Sem.run_pure,Sem.run_bind,Result.andThen_ok,z7]
   rw [← hcs]
   simp [newRow]
 obtain ⟨ev,hH',ht⟩:=aFc hH e cs n c.toNat true (Q1 c.toNat z) q3 hcsz (by simp) (by simp) (fun q cc hq=>by
  have hql:q < c.toNat:=by have:=(Q0.1 hq).1;simpa using this
  have hcc:cc=z:=by
   rw [List.getElem?_replicate] at hq
   simp [hql] at hq;exact hq.symm
  subst hcc
  refine ⟨hzn,fun j y hj => ?_⟩
  have hj':j < n:=by rw [← hzn];exact (Q0.1 hj).1
  have hlt:=aBT (K:=c.toNat) (sz:=n) hql hj'
  have:=z6.reps.2 j y hj
  have e1:cs.getD (q*n+j) Go.undef=v.cells.getD j Go.undef:=by
   rw [hcs]
   have hm:(q*n+j) % n=j:=by rw [Nat.mul_comm,Nat.mul_add_mod,Nat.mod_eq_of_lt hj']
   have hj2:j < v.cells.size:=by omega
   simp [hlt,hvz,hm,hj2]
   rw [getElem!_pos _ _ (by simpa using hj2)]
   simp [hj2]
  rw [e1];exact this)
 exact ⟨_,_,_,run,ev,hH',.hsl h.length 0 l.toNat c.toNat none _ _ ht (by omega) (by show 0+c.toNat≤c.toNat;omega) (by simp) (fun _=>by show 0+c.toNat=c.toNat;omega) (fun _=>by simp) rfl⟩
theorem aOy (hH:HeapRel G B S w h) {sT xT ty e sz bytes:Nat} {z:List AV} {kn:IntKind} (hu:G.P.underlying sT=some (.slice e)) (hx:G.P.underlying xT=some (.int kn))
  (hs:aAM G.P e=some sz) (hb:aDY G.P e=some bytes) (hz:aBY G.P e=some z) {k:IntKind} {n:Int} (hn:0 < n) {r:AV} {h':aA0} (hr:aBq h sz bytes (Q1 n.toNat z)=some (r,h')) :
  Ok G B S w ((Builtin.append_ #[sT, xT] ty #[.slice none 0 0, .int k n]).run G.P w) h' r := by
 unfold aBq at hr
 split at hr
 ·rename_i hc
  cases hr
  obtain ⟨hc1,hc2⟩:=hc
  rw [List.length_replicate] at hc1
  have hHd:=hH.drew
  obtain ⟨i,v,z1,z2,z3,z4,z5,z6,z7⟩:=aEf (w:=w.drew) (I:=imm B S) hz
  obtain ⟨inf,q1,q2,q3,q4⟩:=aAZ hs
  obtain ⟨inf',b1,b2⟩:=aHq hb
  rw [q1] at b1 z1;cases b1;cases z1
  have hvz:v.cells.size=sz:=by omega
  have hzn:z.length=sz:=by omega
  obtain ⟨m,hm⟩:∃ m:Nat,m=n.toNat:=⟨_,rfl⟩
  rw [← hm] at hc1 hc2 ⊢
  have hnm:n=(m:Int):=by omega
  have hle:m≤68719476736:=Nat.le_trans (Nat.le_mul_of_pos_right _ (by omega)) hc1
  have hw1:IntKind.i64.wrap n=n:=IntWalk.i64_in _ (by omega)
  have hyp:(underlying xT).run G.P w=.ok (.int kn) w:=run_underlying hx w
  have hneg:¬ (n < 0):=by omega
  have hbig:¬ (n*(i.bytes:Int) > 2 ^ 48):=by
   have e1:m*i.bytes≤m*(bytes+1):=Nat.mul_le_mul_left m (by omega)
   have e2:n*(i.bytes:Int)=((m*i.bytes:Nat):Int):=by rw [hnm,Int.natCast_mul]
   rw [e2];omega
  have hneed:¬ (((0+m:Nat):Int) > IntKind.i64.max):=by
   have e3:IntKind.i64.max=9223372036854775807:=rfl
   rw [e3];omega
  have hcapb:¬ Builtin.nextslicecap (0+m) 0*i.bytes > 2 ^ 48:=by
   have h1:=aJc (n:=0+m) (c:=0) (by omega)
   have h2:Builtin.nextslicecap (0+m) 0*i.bytes≤(2*(0+m)+256)*i.bytes:=Nat.mul_le_mul_right _ h1
   have h3:(2*(0+m)+256)*i.bytes≤258*(m*(bytes+1)):=by
    have e1:258*(m*(bytes+1))=(258*m)*(bytes+1):=by rw [Nat.mul_assoc]
    rw [e1]
    exact Nat.mul_le_mul (by omega) (by omega)
   omega
  obtain ⟨cap,hcapd⟩:∃ cap,cap=(Question.appendCap (0+m) 0 e).cut (w.tape w.drawn (.appendCap (0+m) 0 e)):=⟨_,rfl⟩
  have hcap:0+m≤cap:=by rw [hcapd];exact Nat.le_add_right _ _
  have hch:(choose (.appendCap (0+m) 0 e)).run G.P w=.ok cap w.drew:=by rw [hcapd];rfl
  have hti:∀ w',(typeInfo e).run G.P w'=.ok i w':=fun w'=>by simp [typeInfo,q1]
  have hask:∀ (q:Nat) w',(askRoom q).run G.P w'=.ok () w':=fun q w'=>by
   unfold askRoom;split <;> rfl
  have hms:¬ (m*sz=0):=Nat.mul_ne_zero (by omega) (by omega)
  have hfc : (Builtin.firstCells sz 0 (.slice none 0 0)).run G.P w.drew = .ok #[] w.drew := rfl
  have run : (Builtin.append_ #[sT, xT] ty #[.slice none 0 0, .int k n]).run G.P w = .ok (.slice (some ⟨w.heap.size, 0, none⟩) (0 + m) cap) (w.drew.alloc (.cells (#[] ++ Builtin.zeroCells v.cells m ++ Builtin.zeroCells v.cells (cap - (0 + m))) e)) := by
   have hroom:¬ (0+m≤0):=by omega
   unfold Builtin.append_
   simp only [List.getElem?_toArray,List.getElem?_cons_zero,List.getElem?_cons_succ,Sem.run_bind,run_underlying hu,Result.andThen_ok,q4,hyp,Sem.run_pure,if_true,asInt,asIntOf,hw1,hneg,if_false,hti,hbig,← hm,hroom,hneed,false_and,hcapb,hch,hask,hfc,Bool.not_true,Bool.false_eq_true,hms,z7]
   simp only [newRow,Sem.run_bind,run_newObj_alloc,Result.andThen_ok,Sem.run_pure]
   rfl
  obtain ⟨cs, hcs⟩ : ∃ cs, cs = #[] ++ Builtin.zeroCells v.cells m ++ Builtin.zeroCells v.cells (cap - (0 + m)) := ⟨_, rfl⟩
  rw [← hcs] at run
  have hcsz:cs.size=cap*sz:=by
   rw [hcs]
   simp only [Builtin.zeroCells,Array.size_append,Array.size_map,Array.size_range,hvz]
   have : (#[] : Array Value).size = 0 := rfl
   rw [this,Nat.zero_add,← Nat.add_mul]
   congr 1;omega
  obtain ⟨ev,hH',ht⟩:=aFc hHd e cs sz cap false (Q1 m z) q3 hcsz (by simp;omega) (by simp) (fun q cc hq=>by
   have hql:q < m:=by have:=(Q0.1 hq).1;simpa using this
   have hcc:cc=z:=by
    rw [List.getElem?_replicate] at hq
    simp [hql] at hq;exact hq.symm
   subst hcc
   refine ⟨hzn,fun j y hj => ?_⟩
   have hj':j < sz:=by rw [← hzn];exact (Q0.1 hj).1
   have hlt:=aBT (K:=m) (sz:=sz) hql hj'
   have:=z6.reps.2 j y hj
   have e1:cs.getD (q*sz+j) Go.undef=v.cells.getD j Go.undef:=by
    have hm2:(q*sz+j) % sz=j:=by rw [Nat.mul_comm,Nat.mul_add_mod,Nat.mod_eq_of_lt hj']
    have hj2:j < v.cells.size:=by omega
    have hz1:(Builtin.zeroCells v.cells m).size=m*sz:=by simp [Builtin.zeroCells,hvz]
    have g1:cs[q*sz+j]?=(Builtin.zeroCells v.cells m)[q*sz+j]?:=by
     rw [hcs,Array.empty_append,Array.getElem?_append_left (by rw [hz1];exact hlt)]
    have g2:(Builtin.zeroCells v.cells m)[q*sz+j]?=some v.cells[j]:=by
     simp only [Builtin.zeroCells,hvz]
     rw [Array.getElem?_map,Array.getElem?_range,if_pos hlt]
     simp only [Option.map_some,hm2]
     rw [getElem!_pos _ _ (by simpa using hj2)]
    rw [Array.getD_eq_getD_getElem?,Array.getD_eq_getD_getElem?,g1,g2]
    simp [hj2]
   rw [e1];exact this)
  have run' : (Builtin.append_ #[sT, xT] ty #[.slice none 0 0, .int k n]).run G.P w = .ok (.slice (some ⟨w.drew.heap.size, 0, none⟩) m cap) (w.drew.alloc (.cells cs e)) := by
   rw [run,Nat.zero_add];rfl
  rw [List.length_replicate]
  exact ⟨_,_,_,run',(Evo.drew S w).trans ev,hH',.hsl h.length 0 m cap none _ _ ht (by omega) (by show 0+cap≤cap;omega) (by simp) (fun _=>by show 0+cap=cap;omega) (fun _=>by simp) rfl⟩
 ·cases hr
theorem aNf (hH:HeapRel G B S w h) {sT xT ty e sz:Nat} {kn:IntKind} (hu:G.P.underlying sT=some (.slice e)) (hx:G.P.underlying xT=some (.int kn)) (hs:aAM G.P e=some sz) {k:IntKind} :
  Ok G B S w ((Builtin.append_ #[sT, xT] ty #[.slice none 0 0, .int k 0]).run G.P w) h .nilS := by
 obtain ⟨inf,q1,q2,q3,q4⟩:=aAZ hs
 have hti:∀ w',(typeInfo e).run G.P w'=.ok inf w':=fun w'=>by simp [typeInfo,q1]
 have hyp:(underlying xT).run G.P w=.ok (.int kn) w:=run_underlying hx w
 have hw1:IntKind.i64.wrap 0=0:=IntWalk.i64_in _ (by omega)
 have run : (Builtin.append_ #[sT, xT] ty #[.slice none 0 0, .int k 0]).run G.P w = .ok (.slice none 0 0) w := by
  unfold Builtin.append_
  simp only [List.getElem?_toArray,List.getElem?_cons_zero,List.getElem?_cons_succ,Sem.run_bind,run_underlying hu,Result.andThen_ok,q4,hyp,Sem.run_pure,if_true,asInt,asIntOf,hw1,hti]
  simp [hti]
 exact Ok.same hH run (.pure _ _ .nilS)
theorem aMW (hH:HeapRel G B S w h) {src dst e:TypeId} (hs:G.P.underlying src=some .string) (hd:G.P.underlying dst=some (.slice e)) (he:G.P.underlying e=some (.int .u8)) (bs:ByteArray) :
  Ok G B S w ((convert src dst (.string bs)).run G.P w) (h++[.arr 0 1 false (bs.data.toList.map fun b=>[.int .u8 b.toNat])]) (.hsl h.length 0 0 bs.data.toList.length none):=by
 have hHd:=hH.drew
 have run:=run_bytes_of_string w src dst e bs hs hd he
 obtain ⟨cap,hcap⟩:∃ cap,cap=grownCap w bs.size 0 e:=⟨_,rfl⟩
 have hle:bs.size≤cap:=by rw [hcap];exact Nat.le_add_right _ _
 rw [← hcap] at run
 obtain ⟨cs,hcs⟩:∃ cs,cs=bytesRow bs cap:=⟨_,rfl⟩
 rw [← hcs] at run
 have hbs:bs.data.size=bs.size:=rfl
 have hcsz:cs.size=cap*1:=by
  rw [hcs]
  simp only [bytesRow,Array.size_append,Array.size_map,Array.size_replicate,hbs]
  omega
 have hll:bs.data.toList.length=bs.size:=by simp [hbs]
 obtain ⟨ev,hH',ht⟩:=aOc hHd e cs (cs.size,cs.size+1) (Fz.behind _) 1 cap false (bs.data.toList.map fun b=>[.int .u8 b.toNat]) (by omega) hcsz (by rw [List.length_map,hll];exact hle) (by simp) (fun q cc hq=>by
  rw [List.getElem?_map] at hq
  cases hb:bs.data.toList[q]? with
  | none=>rw [hb] at hq;cases hq
  | some b =>
   rw [hb] at hq
   cases hq
   refine ⟨rfl,fun j y hj => ?_⟩
   cases j with
   | succ j=>simp at hj
   | zero =>
    simp at hj
    subst hj
    have hql:q < bs.data.size:=by
     have:=(Q0.1 hb).1
     simpa using this
    have e1:cs.getD (q*1+0) Go.undef=.int .u8 b.toNat:=by
     have g1:cs[q]?=some (.int .u8 b.toNat):=by
      rw [hcs]
      simp only [bytesRow]
      rw [Array.getElem?_append_left (by simpa using hql),Array.getElem?_map]
      have:bs.data[q]?=some b:=by rw [← Array.getElem?_toList];exact hb
      rw [this];rfl
     rw [Nat.mul_one,Nat.add_zero,Array.getD_eq_getD_getElem?,g1];rfl
    rw [e1];exact .pure _ _ (.int _ _))
 rw [hll]
 exact ⟨_,_,_,run,(Evo.drew S w).trans ev,hH',.hsl h.length 0 bs.size cap none _ _ ht hle (by show 0+cap≤cap;omega) (by simp) (fun _=>by show 0+cap=cap;omega) (fun _=>by simp) rfl⟩
theorem aIn:∀ (ns:List Int) (r:ByteArray),(ns.foldl (fun r n=>r.push (UInt8.ofNat n.toNat)) r).data.toList=r.data.toList++ns.map fun n=>UInt8.ofNat n.toNat
 | [],r=>by simp
 | n::ns,r=>by
  rw [List.foldl_cons,aIn ns]
  simp [ByteArray.push]
theorem aIq:∀ {l:List (List AV)} {s:List UInt8},aFX l=some s→∃ ns:List Int,l=ns.map (fun n=>[AV.int .u8 n])∧s=ns.map fun n=>UInt8.ofNat n.toNat
 | [],s,h=>by
  simp [aFX] at h
  exact ⟨[],rfl,h⟩
 | c::r,s,h=>by
  unfold aFX at h
  split at h
  ·rename_i e;cases e
  ·rename_i n r' e
   cases e
   cases hr:aFX r with
   | none=>rw [hr] at h;cases h
   | some s' =>
    rw [hr] at h
    cases h
    obtain ⟨ns,e1,e2⟩:=aIq hr
    exact ⟨n::ns,by rw [e1];rfl,by rw [e2];rfl⟩
  ·cases h
theorem aO1 (hH:HeapRel G B S w h) {vx:Value} {v:AV} {xs:List (List AV)} (hx:Rep B S w vx v) (hr:aAI h 1 v=some xs) (hn:∀ s,v≠.str s):∃ A len cap,vx=.slice A len cap:=by
 unfold aAI at hr
 split at hr
 ·have e1:=hx.nilS_inv;exact ⟨_,_,_,e1⟩
 ·have:=hx.vsl_inv
  cases this with
  | vsl0=>exact ⟨_,_,_,rfl⟩
  | vslE A=>exact ⟨_,_,_,rfl⟩
  | vsl b base sz' cap ex l f k1 k2 k3 k4 k5=>exact ⟨_,_,_,rfl⟩
 ·rename_i i v o n c
  split at hr
  ·rename_i sz' xx l hg
   obtain ⟨t,cs,rty,g1,g2,g3,_⟩:=aBA hH hg
   obtain ⟨A,cap,hv,_⟩:=hx.hsl_inv g1 g3
   exact ⟨_,_,_,hv⟩
  ·cases hr
 ·exact absurd rfl (hn _)
 ·cases hr
theorem aNd (hH:HeapRel G B S w h) {src dst e:TypeId} (hs:G.P.underlying src=some (.slice e)) (hd:G.P.underlying dst=some .string) (he:G.P.underlying e=some (.int .u8)) {vx:Value} {v z:AV} (hx:Rep B S w vx v) (hr:aDE h v=some z) :
  Ok G B S w ((convert src dst vx).run G.P w) h z:=by
 unfold aDE at hr
 split at hr
 ·cases hr
 rename_i hn
 cases hel:aAI h 1 v with
 | none=>rw [hel] at hr;cases hr
 | some xs =>
  rw [hel,Option.bind_some] at hr
  cases hb:aFX xs with
  | none=>rw [hb] at hr;cases hr
  | some s =>
   rw [hb] at hr
   cases hr
   obtain ⟨A,len,cap,rfl⟩:=aO1 hH hx hel hn
   obtain ⟨l1,l2⟩:=aEW hH (by omega) hx hel
   have hlen:len=xs.length:=by
    have:(Builtin.lenOf (.slice A len cap)).run G.P w=.ok len w:=rfl
    rw [this] at l1
    injection l1
   obtain ⟨us,u1,u2⟩:=l2 xs.length (Nat.le_refl _)
   rw [List.take_length] at u2
   obtain ⟨ns,e1,e2⟩:=aIq hb
   have hus:us=ns.map (Value.int .u8):=by
    refine List.ext_getElem? fun j => ?_
    by_cases hj:j < ns.length
    ·have hx1:xs[j]?=some [.int .u8 ns[j]]:=by rw [e1];simp [hj]
     obtain ⟨_,k⟩:=u2.2 j _ hx1
     have k:=k 0 _ rfl
     have k:=k.int_inv
     have hl:us.length=ns.length:=by rw [u2.1,e1];simp
     rw [Nat.mul_one,Nat.add_zero] at k
     have:us[j]?=some (us.getD j Go.undef):=by
      rw [List.getElem?_eq_getElem (by omega)]
      simp [List.getD,hl,hj]
     rw [this,k];simp [hj]
    ·have hl:us.length=ns.length:=by rw [u2.1,e1];simp
     rw [List.getElem?_eq_none (by omega),List.getElem?_eq_none (by simp;omega)]
   have hl:ns.length=len:=by rw [hlen,e1,List.length_map]
   refine Ok.same (x:=.str s) hH (v:=.string (ns.foldl (fun r n=>r.push (UInt8.ofNat n.toNat)) ByteArray.empty)) ?_ (.str' ?_)
   ·rw [run_convert_bytes_string w src dst e A len cap hs he hd]
    cases A with
    | none =>
     have:ns=[]:=by
      have z0 : (Builtin.firstCells 1 xs.length (.slice none len cap)).run G.P w = .ok #[] w := rfl
      rw [z0] at u1
      injection u1 with q
      have:us=[]:=by
       have:=congrArg Array.toList q
       simpa using this.symm
      rw [hus] at this
      simpa using this
     subst this
     rfl
    | some a =>
     have u1':(loadCells a (xs.length*1)).run G.P w=.ok us.toArray w:=u1
     rw [Nat.mul_one,← hlen,hus] at u1'
     exact run_bytesToString w a len cap ns u1'
   ·rw [aIn,e2]
    rfl
theorem aQg (hH:HeapRel G B S w h) {ty ty' e:TypeId} (hs:G.P.underlying ty=some (.slice ty')) (hd:G.P.underlying ty=some (.slice e)) (he:G.P.underlying e=some (.int .u8)) {vx:Value} {v z:AV} (hx:Rep B S w vx v) (hr:aOA h v=some z) :
  Ok G B S w ((convert ty ty vx).run G.P w) h z:=by
 unfold aOA at hr
 split at hr
 ·rename_i i ver o n c
  split at hr
  ·rename_i hn
   cases hg:aA3 h i ver with
   | none=>rw [hg] at hr;cases hr
   | some q =>
    obtain ⟨sz,x,l⟩:=q
    rw [hg] at hr
    cases hr
    obtain ⟨t,cs,rty,g1,g2,g3,g4,g5,g6,g7,⟨fz,hfz,g8⟩,g9,g10⟩:=aBA hH hg
    obtain ⟨a,cap,hv,q1,q2,q3,q4,q5⟩:=hx.hsl_inv g1 g3
    subst hv
    have ha:=q5 (by omega)
    subst ha
    have hlt:t.b < w.heap.size:=(hH.lt i t g1).1
    have hsh:w.shape? t.b=some (rty,cs.size):=by unfold World.shape?;rw [g8]
    obtain ⟨fz',hz',hfr⟩:∃ fz',Fz fz' cs.size∧(w.freeze ⟨t.b,cs.size,none⟩ 1).heap[t.b]?=some (.cells cs rty fz'):=by
     unfold World.freeze
     rw [if_neg (by decide)]
     simp only [Array.getElem?_modify,if_true,g8,Option.map_some]
     rcases hfz with hfz | hfz
     ·subst hfz
      exact ⟨_,Fz.behind _,rfl⟩
     ·subst hfz
      refine ⟨_,Fz.behind _,?_⟩
      have:(cs.size==cs.size+1)=false:=by simp
      simp [this]
    have hot:∀ k,k≠t.b→(w.freeze ⟨t.b,cs.size,none⟩ 1).heap[k]?=w.heap[k]?:=fun k hk=>by
     unfold World.freeze
     rw [if_neg (by decide)]
     simp only [Array.getElem?_modify]
     rw [if_neg (fun e=>hk e.symm)]
    have hsz:(w.freeze ⟨t.b,cs.size,none⟩ 1).heap.size=w.heap.size:=by
     unfold World.freeze
     rw [if_neg (by decide)]
     simp
    have run:(convert ty ty (.slice (some ⟨t.b,t.base+o*t.sz,none⟩) n cap)).run G.P w=.ok (.slice (some ⟨t.b,t.base+o*t.sz,none⟩) n cap) (w.freeze ⟨t.b,cs.size,none⟩ 1):=by
     simp [convert,run_underlying hd,run_underlying he,markStringish,hsh]
    have ev:Evo S w S (w.freeze ⟨t.b,cs.size,none⟩ 1):=Evo.write rfl rfl rfl hsz t.b (aDc g1) hot
    have hset:h.set i (.arr ver sz x l)=h:=by
     obtain ⟨h1,h2⟩:=Q0.1 g2
     rw [← h2];exact List.set_getElem_self h1
    obtain ⟨_,hH'⟩:=hH.write (w':=w.freeze ⟨t.b,cs.size,none⟩ 1) rfl rfl rfl hsz g1 hot (.arr ver sz x l) ⟨g3,g4,g5,g6,g7,cs,rty,⟨fz',hz',hfr⟩,g9,fun e c he=>⟨(g10 e c he).1,fun j y hj=>((g10 e c he).2 j y hj).evo ev⟩⟩
    rw [hset] at hH'
    exact ⟨_,_,_,run,ev,hH',hx.evo ev⟩
  ·cases hr
 ·cases hr
theorem aQf (hH:HeapRel G B S w h) (t:TypeId):Ok G B S w ((Instr.makeMap t none).run G.P w) (h++[.map []]) (.map h.length):=by
 let te:Ent:=⟨w.heap.size,0,0,0,0⟩
 have ev := Evo.alloc S w (.map #[] 0) te (Nat.le_refl _)
 have hH' : HeapRel G B (S ++ [te]) (w.alloc (.map #[] 0)) (h ++ [.map []]) := hH.alloc _ te _ rfl ⟨rfl, rfl, #[], 0, heap_alloc_new w _, rfl, fun j k x hj => by simp at hj⟩
 refine ⟨.map (some w.heap.size),_,_,by simp [Instr.makeMap],ev,hH',?_⟩
 exact .map h.length te (by rw [← hH.len];simp) rfl
theorem aN6 (hH:HeapRel G B S w h) {vx:Value} {x z:AV} (hx:Rep B S w vx x) (hr:aCC h x 0=some z):Rep B S w vx z∧∃ a,vx=.pointer (some a):=by
 obtain ⟨b,o,rfl,h2⟩:=aIW hH hx hr
 exact ⟨by simpa using h2,_,rfl⟩
def aSo (r:Result Next) (v:Value) (w':World):Prop:=r=.ok (.value v) w'∨(r=.ok .skip w'∧v=Go.undef)
def OkN (G:Pg) (B:Nat→Prop) (S:List Ent) (w:World) (r:Result Next) (h':aA0) (x:AV):Prop :=
 ∃ v w' S',aSo r v w'∧Evo S w S' w'∧HeapRel G B S' w' h'∧Rep B S' w' v x
theorem Ok.n {s:Sem Value} {h':aA0} {x:AV} (ho:Ok G B S w (s.run G.P w) h' x):OkN G B S w ((do pure (.value (← s)):Sem Next).run G.P w) h' x:=by
 obtain ⟨v,w',S',h1,h2,h3,h4⟩:=ho
 exact ⟨v,w',S',.inl (by simp [h1]),h2,h3,h4⟩
theorem OkU.n {s:Sem Unit} {h':aA0} (ho:OkU G B S w (s.run G.P w) h'):OkN G B S w ((do s;pure .skip:Sem Next).run G.P w) h' AV.un:=by
 obtain ⟨w',S',h1,h2,h3⟩:=ho
 exact ⟨_,w',S',.inr ⟨by simp [h1],rfl⟩,h2,h3,.un⟩
theorem OkN.val (hH:HeapRel G B S w h) {v:Value} {x:AV} (hx:Rep B S w v x):OkN G B S w ((pure (.value v):Sem Next).run G.P w) h x :=
 ⟨v,w,S,.inl rfl,Evo.refl S w,hH,hx⟩
theorem aOv (hH:HeapRel G B S w h) {b:Builtin} {tys:Array TypeId} {al:List AX} {ao:AOp} (hc:aEk G.P b tys.toList al=some ao) {tl:List AV} {vs:Array Value} (hv:aAx B S w vs (avs tl al))
  {x:AV} {h':aA0} (hr:aop h tl ao=some (.v x h')) (ty:TypeId) (cs:Array Bool):OkN G B S w ((builtin b tys ty cs vs).run G.P w) h' x:=by
 have one : ∀ {y : AX}, al = [y] → ∃ v, vs = #[v] ∧ Rep B S w v (y.ev tl) := by
  intro y e
  subst e
  obtain ⟨l⟩:=vs
  have h1:=hv.1
  cases l with
  | nil=>simp [avs] at h1
  | cons v l=>cases l with
   | nil=>exact ⟨v,rfl,by simpa using hv.2 0 _ rfl⟩
   | cons=>simp [avs] at h1
 have two : ∀ {y z : AX}, al = [y, z] → ∃ v u, vs = #[v, u] ∧ Rep B S w v (y.ev tl) ∧ Rep B S w u (z.ev tl) := by
  intro y z e
  subst e
  obtain ⟨l⟩:=vs
  have h1:=hv.1
  match l,h1 with
  | [v,u],_=>exact ⟨v,u,rfl,by simpa using hv.2 0 _ rfl,by simpa using hv.2 1 _ rfl⟩
  | [],h1=>simp [avs] at h1
  | [_],h1=>simp [avs] at h1
  | _::_::_::_,h1=>simp [avs] at h1
 have ty1 : ∀ {t : TypeId}, tys.toList = [t] → tys = #[t] := fun e => by apply Array.ext'; simpa using e
 have ty2 : ∀ {t u : TypeId}, tys.toList = [t, u] → tys = #[t, u] := fun e => by apply Array.ext'; simpa using e
 unfold aEk at hc
 split at hc
 ·rename_i t y e1
  have e1:=ty1 e1;subst e1
  obtain ⟨v,rfl,rv⟩:=one rfl
  split at hc
  ·rename_i hu;cases hc
   cases hz:aBt h .str (y.ev tl) with
   | none=>simp [aop,hz] at hr
   | some z=>simp [aop,hz] at hr;obtain ⟨rfl,rfl⟩:=hr;exact (aLW hH (q:=.str) hu rv hz).n
  ·rename_i e hu;cases hc
   cases hz:aBt h .slice (y.ev tl) with
   | none=>simp [aop,hz] at hr
   | some z=>simp [aop,hz] at hr;obtain ⟨rfl,rfl⟩:=hr;exact (aLW hH (q:=.slice) ⟨e,hu⟩ rv hz).n
  ·rename_i k e hu;cases hc
   cases hz:aBt h .map (y.ev tl) with
   | none=>simp [aop,hz] at hr
   | some z=>simp [aop,hz] at hr;obtain ⟨rfl,rfl⟩:=hr;exact (aLW hH (q:=.map) ⟨k,e,hu⟩ rv hz).n
  ·cases hc
 ·rename_i t y e1
  have e1:=ty1 e1;subst e1
  obtain ⟨v,rfl,rv⟩:=one rfl
  split at hc
  ·rename_i e hu;cases hc
   cases hz:aH9 h (y.ev tl) with
   | none=>simp [aop,hz] at hr
   | some z=>simp [aop,hz] at hr;obtain ⟨rfl,rfl⟩:=hr;exact (aSb hH hu rv hz).n
  ·cases hc
 ·rename_i t u s y e1
  have e1:=ty2 e1;subst e1
  obtain ⟨v,v2,rfl,rv,rv2⟩:=two rfl
  have fin:∀ e dx,G.P.underlying t=some (.slice e)→G.P.underlying u=some dx→(∀ k,dx≠.int k)→(match aAM G.P e,aDY G.P e,aBY G.P e with | some n,some b,some _=>some (AOp.append n b s y) | _,_,_=>none)=some ao →
    OkN G B S w ((builtin .append #[t, u] ty cs #[v, v2]).run G.P w) h' x := by
   intro e dx hu1 hu2 hd hc
   split at hc
   ·rename_i n b z h1 h2 h3
    cases hc
    simp only [aop] at hr
    split at hr
    ·rename_i xs he
     cases hz:aD0 h n b (s.ev tl) xs with
     | none=>simp [hz] at hr
     | some q=>obtain ⟨q1,q2⟩:=q;simp [hz] at hr;obtain ⟨rfl,rfl⟩:=hr;exact (aPD (ty:=ty) hH hu1 hu2 hd h1 h2 h3 rv rv2 he hz).n
    ·cases hr
   ·cases hc
  split at hc
  ·rename_i e e2 hu1 hu2;exact fin e _ hu1 hu2 (by simp) hc
  ·rename_i e hu1 hu2;exact fin e _ hu1 hu2 (by simp) hc
  ·rename_i e kn hu1 hu2
   split at hc
   ·rename_i n b z h1 h2 h3
    cases hc
    simp only [aop] at hr
    split at hr
    ·rename_i kk m hs hm
     rw [hs] at rv
     rw [hm] at rv2
     have hv:=rv.nilS_inv
     have hv2:v2=.int kk m:=by
      cases rv2 with
      | pure _ _ hp=>cases hp;rfl
     subst hv hv2
     split at hr
     ·rename_i h0
      subst h0
      cases hr
      exact (aNf (ty:=ty) hH hu1 hu2 h1).n
     ·split at hr
      ·rename_i hpos
       cases hz:aBq h n b (Q1 m.toNat z) with
       | none=>simp [hz] at hr
       | some q=>obtain ⟨q1,q2⟩:=q;simp [hz] at hr;obtain ⟨rfl,rfl⟩:=hr;exact (aOy (ty:=ty) hH hu1 hu2 h1 h2 h3 hpos hz).n
      ·cases hr
    ·cases hr
   ·cases hc
  ·cases hc
 ·rename_i t u d s e1
  have e1:=ty2 e1;subst e1
  obtain ⟨v,v2,rfl,rv,rv2⟩:=two rfl
  split at hc
  ·rename_i e hu
   cases hs:aAM G.P e with
   | none=>simp [hs] at hc
   | some n =>
    simp [hs] at hc;subst hc
    simp only [aop] at hr
    split at hr
    ·rename_i xs he
     cases hz:aLD h n (d.ev tl) xs with
     | none=>simp [hz] at hr
     | some q=>obtain ⟨q1,q2⟩:=q;simp [hz] at hr;obtain ⟨rfl,rfl⟩:=hr;exact (aRx (ty:=ty) hH hu hs rv rv2 he hz).n
    ·cases hr
  ·cases hc
 ·rename_i t u m k e1
  have e1:=ty2 e1;subst e1
  obtain ⟨v,v2,rfl,rv,rv2⟩:=two rfl
  split at hc
  ·rename_i kt et hu
   cases hs:aBS G.P kt with
   | none=>simp [hs] at hc
   | some q =>
    simp [hs] at hc;subst hc
    simp only [aop] at hr
    split at hr
    ·rename_i i hm
     split at hr
     ·rename_i l hl
      split at hr
      ·rename_i hok
       cases hz:aBM q (k.ev tl) l 0 with
       | none=>simp [hz] at hr
       | some r=>simp [hz] at hr;obtain ⟨rfl,rfl⟩:=hr;rw [hm] at rv;exact (aPv (xT:=u) (ty:=ty) hH hu hs rv rv2 hl hok hz _ rfl).n
      ·cases hr
     ·cases hr
    ·cases hr
  ·cases hc
 ·rename_i y r
  cases hc
  simp only [aop] at hr
  split at hr
  ·rename_i k n rr he
   cases hz:amm false (.int k n) rr with
   | none=>simp [hz] at hr
   | some z=>simp [hz] at hr;obtain ⟨rfl,rfl⟩:=hr;exact (aKI (mx:=false) hH hv he hz tys ty).n
  ·cases hr
 ·rename_i y r
  cases hc
  simp only [aop] at hr
  split at hr
  ·rename_i k n rr he
   cases hz:amm true (.int k n) rr with
   | none=>simp [hz] at hr
   | some z=>simp [hz] at hr;obtain ⟨rfl,rfl⟩:=hr;exact (aKI (mx:=true) hH hv he hz tys ty).n
  ·cases hr
 ·cases hc
end
end Go.Proofs.Yteenffomgdfocaa.Ai
