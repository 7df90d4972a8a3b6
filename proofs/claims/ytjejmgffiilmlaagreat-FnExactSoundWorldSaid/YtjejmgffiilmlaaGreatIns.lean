/- slices.Insert at elements of plain cells, over any program that bears its text: a call of it does what is told. No condition but those that are stated. -/
import Derived.Test.YtjejmgffiilmlaaGreatLib
import Derived.Shelf.Bodies2
import Derived.Shelf.RegionOpenPlain
import Derived.WalkKit
import Derived.Lib.Walk
import Derived.Lib.SliceRun
import Derived.Lib.JoinLaws
import Derived.Lib.AppendZeros
import Derived.Lib.Overlaps
import Derived.Laws.Externs
import Derived.Laws.IdiomCopy
import Derived.Lib.AppendZerosOnto
set_option linter.unusedVariables false
set_option linter.unusedSimpArgs false
set_option maxRecDepth 100000
namespace Go.FG.Ins
open Go Go.Shelf Go.RowKit Go.Lib Go.Proofs
structure L (P : Program) (ρ : Ren) (nm : String) (sz : Nat) : Prop where
 mixed : P.follows .mixedOrders = true
 f22 : P.funcs[ρ.f 22]? = some { Body2.n22 ρ with name := nm }
 t3 : P.underlying (ρ.t 3) = some (TypeDesc.int IntKind.i64)
 a3 : ∀ w, (Go.isAgg (ρ.t 3)).run P w = .ok false w
 t4 : P.underlying (ρ.t 4) = some (TypeDesc.bool)
 a4 : ∀ w, (Go.isAgg (ρ.t 4)).run P w = .ok false w
 t24 : P.underlying (ρ.t 24) = some (TypeDesc.slice (ρ.t 9))
 a24 : ∀ w, (Go.isAgg (ρ.t 24)).run P w = .ok false w
 z9 : ∀ w, (Go.sizeOf (ρ.t 9)).run P w = .ok sz w
variable {P : Program} {ρ : Ren} {nm : String} {sz : Nat}
theorem wpList_copy (w : World) {ops : Array Oper} {rest : List Oper} {o : Oper} {a : Act} {Q : Exit -> Act -> World -> Prop} (hgd : o.guard = none) (d s : Operand) (t t' : TypeId)
  (ho : o.op = .call { callee := .builtin .copy, args := #[d, s], argTypes := #[t, t'] }) (v u : Value) (hd : a.eval d = v) (hs : a.eval s = u) {v' : Value} {w' : World}
  (hr : (Builtin.copy_ #[t, t'] o.type #[v, u]).run P w = .ok v' w') (h : wpList P ops Q rest (a.put o.dst v') w') : wpList P ops Q (o :: rest) a w :=
 wpList_plain hgd fun _ hK => by
  unfold Oper.wp execOp
  simp only [ho, resolve, invoke, builtin, Sem.run_bind, Sem.run_pure, Result.andThen_ok, List.map_toArray, List.map_cons, List.map_nil, hd, hs, hr]
  exact hK _ _ h
theorem step_copy {ops : Array Oper} {o : Oper} {a : Act} {w : World} {K : Act -> World -> Prop} {Q : Exit -> Act -> World -> Prop} {E : Prop}
  (hg : o.guard = none) (d x : Operand) (dT sT : TypeId) (hop : o.op = Op.call { callee := Callee.builtin Builtin.copy, args := #[d, x], argTypes := #[dT, sT] })
  (v u : Value) (hd : a.eval d = v) (hx : a.eval x = u) {v' : Value} {w' : World} (hr : (Builtin.copy_ #[dT, sT] o.type #[v, u]).run P w = .ok v' w') (hK : K (a.put o.dst v') w') :
  if Region.wanted o (yielded ops a.tmps) = true then Oper.wp P o a w K Q else E := by
 have hw : Region.wanted o (yielded ops a.tmps) = true := by simp [Region.wanted, hg]
 rw [if_pos hw]
 unfold Oper.wp
 simp [execOp, hop, resolve, invoke, builtin, hd, hx, hr, Result.andThen]
 exact hK
set_option maxHeartbeats 4000000 in
set_option maxRecDepth 100000 in
theorem zero (l : L P ρ nm sz) (w : World) (A B : Option Addr) (n c i vc : Nat) (hi : i <= n) (hn : n <= 9223372036854775807) (hA : A = none /\ n = 0 \/ ∃ b o, A = some ⟨b, o, none⟩) :
  Calls P (ρ.f 22) #[.slice A n c, .int .i64 i, .slice B 0 vc] w fun e w' => e = .returned (.slice A n c) /\ w' = w := by
 have t3 := l.t3; have a3 := l.a3; have t4 := l.t4; have a4 := l.a4; have t24 := l.t24; have a24 := l.a24; have z9 := l.z9
 have u3 := run_underlying l.t3; have u4 := run_underlying l.t4; have u24 := run_underlying l.t24
 have hb1 : (0 : Int) <= (i : Int) := by omega
 have hb2 : (i : Int) <= (n : Int) := by omega
 go_enter l.f22, Body2.n22_ntmps ρ
 rcases hA with ⟨rfl, rfl⟩ | ⟨b, o, rfl⟩
 ·obtain rfl : i = 0 := by omega
  go_wp2
  go_ret
  exact ⟨rfl, rfl⟩
 ·go_wp2
  all_goals (go_ret; exact ⟨rfl, rfl⟩)
set_option maxHeartbeats 4000000 in
set_option maxRecDepth 100000 in
theorem atEnd (l : L P ρ nm sz) (w w1 : World) (A B : Option Addr) (n c m vc : Nat) (r : Value) (hm : 0 < m) (hn : n <= 9223372036854775807) (hA : A = none /\ n = 0 \/ ∃ b o, A = some ⟨b, o, none⟩)
  (h1 : ∀ ty, (Builtin.append_ #[ρ.t 24, ρ.t 24] ty #[.slice A n c, .slice B m vc]).run P w = .ok r w1) :
  Calls P (ρ.f 22) #[.slice A n c, .int .i64 n, .slice B m vc] w fun e w' => e = .returned r /\ w' = w1 := by
 have t3 := l.t3; have a3 := l.a3; have t4 := l.t4; have a4 := l.a4; have t24 := l.t24; have a24 := l.a24; have z9 := l.z9
 have u3 := run_underlying l.t3; have u4 := run_underlying l.t4; have u24 := run_underlying l.t24
 have hz1 : ¬ ((m : Int) = 0) := by omega
 go_enter l.f22, Body2.n22_ntmps ρ
 rcases hA with ⟨rfl, rfl⟩ | ⟨b, o, rfl⟩
 ·go_wp2_with (at_builtin; refine Lib.wpList_append_run _ rfl _ _ _ _ rfl _ _ rfl rfl _ _ (h1 _) ?_)
  go_ret
  exact ⟨rfl, rfl⟩
 ·go_wp2_with (at_builtin; refine Lib.wpList_append_run _ rfl _ _ _ _ rfl _ _ rfl rfl _ _ (h1 _) ?_)
  all_goals (go_ret; exact ⟨rfl, rfl⟩)
set_option maxHeartbeats 4000000 in
set_option maxRecDepth 100000 in
theorem shift (l : L P ρ nm sz) (w w1 w2 : World) (x1 x2 : Value) (b o n c i m vc : Nat) (B : Option Addr) (hi : i < n) (hm : 0 < m) (hroom : n + m <= c) (hc63 : c <= 9223372036854775807)
  (hov : ∀ lb cb, (callFunc (ρ.f 29) #[.slice B m vc, .slice (some ⟨b, o + (i + m) * sz, none⟩) lb cb]).run P w = .ok (.value (.bool false)) w)
  (h1 : ∀ ty, (Builtin.copy_ #[ρ.t 24, ρ.t 24] ty #[.slice (some ⟨b, o + (i + m) * sz, none⟩) (n + m - (i + m)) (c - (i + m)), .slice (some ⟨b, o + i * sz, none⟩) (n + m - i) (c - i)]).run P w.drew = .ok x1 w1)
  (h2 : ∀ ty, (Builtin.copy_ #[ρ.t 24, ρ.t 24] ty #[.slice (some ⟨b, o + i * sz, none⟩) (n + m - i) (c - i), .slice B m vc]).run P w1 = .ok x2 w2) :
  Calls P (ρ.f 22) #[.slice (some ⟨b, o, none⟩) n c, .int .i64 i, .slice B m vc] w fun e w' => e = .returned (.slice (some ⟨b, o, none⟩) (n + m) c) /\ w' = w2 := by
 have t3 := l.t3; have a3 := l.a3; have t4 := l.t4; have a4 := l.a4; have t24 := l.t24; have a24 := l.a24; have z9 := l.z9
 have u3 := run_underlying l.t3; have u4 := run_underlying l.t4; have u24 := run_underlying l.t24
 have hz1 : ¬ ((m : Int) = 0) := by omega
 have hz2 : ¬ ((i : Int) = (n : Int)) := by omega
 have mixed := l.mixed
 have hw1 : IntKind.i64.wrap ((i : Int) + (m : Int)) = (i : Int) + (m : Int) := by rw [IntKind.wrap_i64]; omega
 have hb1 : (0 : Int) <= (i : Int) + (m : Int) := by omega
 have hin : i <= n := by omega
 have htn : ((i : Int) + (m : Int)).toNat = i + m := by omega
 have hb2 : ¬ (c = i + m) := by omega
 have hb3 : (i : Int) <= (n : Int) + (m : Int) := by omega
 have hb4 : ¬ (c = i) := by omega
 go_enter l.f22, Body2.n22_ntmps ρ
 go_wp2_with (simp only [hov])
 go_region_law_o (refine step_copy rfl _ _ (ρ.t 24) (ρ.t 24) rfl _ _ (by simp [Act.eval, Act.put]) (by simp [Act.eval, Act.put]) (h1 _) ?_)
 go_wp2_with (at_builtin; refine wpList_copy _ rfl _ _ (ρ.t 24) (ρ.t 24) rfl _ _ rfl rfl (h2 _) ?_)
 go_ret
 exact ⟨rfl, rfl⟩
set_option maxHeartbeats 4000000 in
set_option maxRecDepth 100000 in
theorem grow (l : L P ρ nm sz) (w w1 w2 w3 : World) (x2 x3 : Value) (b o b' n c c' i m vc : Nat) (B : Option Addr) (hi : i < n) (hm : 0 < m) (hnc : n <= c) (hroom : c < n + m) (hbig : n + m <= 9223372036854775807) (hc' : n + m <= c') (hc63 : c' <= 9223372036854775807)
  (h1 : ∀ ty, (Builtin.append_ #[ρ.t 24, ρ.t 3] ty #[.slice (some ⟨b, o, none⟩) i c, .int .i64 ((n : Int) + (m : Int) - (i : Int))]).run P w = .ok (.slice (some ⟨b', 0, none⟩) (n + m) c') w1)
  (h2 : ∀ ty, (Builtin.copy_ #[ρ.t 24, ρ.t 24] ty #[.slice (some ⟨b', i * sz, none⟩) (n + m - i) (c' - i), .slice B m vc]).run P w1 = .ok x2 w2)
  (h3 : ∀ ty, (Builtin.copy_ #[ρ.t 24, ρ.t 24] ty #[.slice (some ⟨b', (i + m) * sz, none⟩) (n + m - (i + m)) (c' - (i + m)), .slice (some ⟨b, o + i * sz, none⟩) (n - i) (c - i)]).run P w2.drew = .ok x3 w3) :
  Calls P (ρ.f 22) #[.slice (some ⟨b, o, none⟩) n c, .int .i64 i, .slice B m vc] w fun e w' => e = .returned (.slice (some ⟨b', 0, none⟩) (n + m) c') /\ w' = w3 := by
 have t3 := l.t3; have a3 := l.a3; have t4 := l.t4; have a4 := l.a4; have t24 := l.t24; have a24 := l.a24; have z9 := l.z9
 have u3 := run_underlying l.t3; have u4 := run_underlying l.t4; have u24 := run_underlying l.t24
 have hz1 : ¬ ((m : Int) = 0) := by omega
 have hz2 : ¬ ((i : Int) = (n : Int)) := by omega
 have hz3 : (c : Int) < (n : Int) + (m : Int) := by omega
 have mixed := l.mixed
 have hw0 : IntKind.i64.wrap ((n : Int) + (m : Int)) = (n : Int) + (m : Int) := by rw [IntKind.wrap_i64]; omega
 have hw2 : IntKind.i64.wrap ((n : Int) + (m : Int) - (i : Int)) = (n : Int) + (m : Int) - (i : Int) := by rw [IntKind.wrap_i64]; omega
 have hw1 : IntKind.i64.wrap ((i : Int) + (m : Int)) = (i : Int) + (m : Int) := by rw [IntKind.wrap_i64]; omega
 have hb1 : (0 : Int) <= (i : Int) + (m : Int) := by omega
 have hin : i <= n := by omega
 have htn : ((i : Int) + (m : Int)).toNat = i + m := by omega
 have hGi : ¬ (c' = i) := by omega
 have hGim : ¬ (c' = i + m) := by omega
 have hci : ¬ (c = i) := by omega
 have hic : i <= c := by omega
 have hb3 : (i : Int) <= (n : Int) := by omega
 have hb4 : (i : Int) <= (n : Int) + (m : Int) := by omega
 go_enter l.f22, Body2.n22_ntmps ρ
 go_wp2_with (first
  | (at_builtin; refine Lib.wpList_append_run _ rfl _ _ _ _ rfl _ _ rfl rfl _ _ (h1 _) ?_)
  | (at_builtin; refine wpList_copy _ rfl _ _ (ρ.t 24) (ρ.t 24) rfl _ _ rfl rfl (h2 _) ?_))
 go_region_law_o (refine step_copy rfl _ _ (ρ.t 24) (ρ.t 24) rfl (.slice (some ⟨b', (i + m) * sz, none⟩) (n + m - (i + m)) (c' - (i + m))) (.slice (some ⟨b, o + i * sz, none⟩) (n - i) (c - i)) (by simp [Act.eval, Act.put]) (by simp [Act.eval, Act.put]) (h3 (ρ.t 3)) ?_)
 go_wp2
 go_ret
 exact ⟨rfl, rfl⟩
end Go.FG.Ins

namespace Go.FG.Ins
open Go Go.Shelf Go.RowKit Go.Lib Go.Proofs
section
variable {P : Program}
theorem run_copyG {w : World} {dT sT ty elem sz b o dLen dCap sLen sCap m : Nat} {B : Option Addr} {cs : List Value} {cur : Array Value} (hu : P.underlying dT = some (.slice elem)) (hs : ∀ w, (sizeOf elem).run P w = .ok sz w)
  (hf : (Builtin.firstCells sz m (.slice B sLen sCap)).run P w = .ok cs.toArray w) (hm : Nat.min sLen dLen = m) (hb : Blk w b cur) (hl : o + cs.length <= cur.size) (h1 : ∀ v ∈ cs, v.oneCell' = true) :
  (Builtin.copy_ #[dT, sT] ty #[.slice (some (ad b o)) dLen dCap, .slice B sLen sCap]).run P w = .ok (goInt m) (w.setRow b (putAt cur o cs)) := by
 have hst := run_store_put (P := P) w hb hl h1
 have hm' : min sLen dLen = m := hm
 simp [Builtin.copy_, run_underlying hu, Builtin.lenOf, hs, hm', hf, hst]
theorem blk_drew {w : World} {b : Nat} {cur : Array Value} (h : Blk w b cur) : Blk w.drew b cur := h
theorem cell_setRow_other {w : World} {b b2 o : Nat} {new : Array Value} (h : b2 ≠ b) : (w.setRow b new).cell? (ad b2 o) = w.cell? (ad b2 o) := World.cell?_of_block (setRow_other w b b2 _ h)
structure Insd (w w' : World) (p p' : Pl) (i m : Nat) (news : List Value) : Prop where
 n : p'.n = p.n + m
 sz : p'.sz = p.sz
 nil : p'.nil = true -> p'.cap = 0 /\ p.n = 0 /\ m = 0
 mem : p'.nil = false -> ∃ vals', Blk w' p'.blk vals' /\ p'.n <= p'.cap /\ p'.cap <= maxLen /\ p'.off + p'.cap * p'.sz <= vals'.size /\
  (∀ k u, k < i * p.sz -> w.cell? (ad p.blk (p.off + k)) = some u -> vals'[p'.off + k]? = some u) /\ (∀ k, k < m * p.sz -> vals'[p'.off + i * p.sz + k]? = news[k]?) /\
  (∀ k u, k < (p.n - i) * p.sz -> w.cell? (ad p.blk (p.off + i * p.sz + k)) = some u -> vals'[p'.off + (i + m) * p.sz + k]? = some u)
 blk : p'.nil = false -> (p.nil = false /\ p'.blk = p.blk) \/ p'.blk = w.heap.size
 old : ∀ b, b < w.heap.size -> (p'.nil = false -> b ≠ p'.blk) -> w'.heap[b]? = w.heap[b]?
 size : w.heap.size <= w'.heap.size
 os : w'.os = w.os
 tape : w'.tape = w.tape
 output : w'.output = w.output
structure Pre (w : World) (p : Pl) : Prop where
 nil : p.nil = true -> p.n = 0 /\ p.cap = 0
 mem : p.nil = false -> ∃ vals, Blk w p.blk vals /\ p.n <= p.cap /\ p.cap <= maxLen /\ p.off + p.cap * p.sz <= vals.size
variable {ρ : Ren} {nm : String}
theorem overlaps_false {w : World} {tS tR e : TypeId} (ht : P.underlying tS = some (.slice e)) {size : Nat} (hz : ∀ w, (Go.sizeOf e).run P w = .ok size w) {B : Option Addr} {m vc b o : Nat} {vals : Array Value} (hb : Blk w b vals) (ho : o < vals.size)
  (hB : ∀ a, B = some a -> 0 < m -> a.block ≠ b /\ ∃ t k, w.shape? a.block = some (t, k + 1)) (lb cb : Nat) :
  (Extern.SlicesOverlaps.overlaps #[tS, tS] #[tR] #[.slice B m vc, .slice (some (ad b o)) lb cb]).run P w = .ok (.bool false) w := by
 obtain ⟨t, fr, hg, hfr⟩ := hb
 have hsb : w.shape? b = some (t, vals.size) := by simp [World.shape?, hg]
 have f1 : w.frozen? ⟨b, o, none⟩ = false := by have := hfr o (by omega); simpa [World.frozen?, hg] using this
 have f2 : w.frozen? ⟨b, vals.size, none⟩ = false := by have := hfr vals.size (Nat.le_refl _); simpa [World.frozen?, hg] using this
 have hne0 : vals.size ≠ 0 := by omega
 change Sem.run P (α := Value) (do
  let some t := (#[tS, tS] : Array TypeId)[0]? | stuck "slices.overlaps: no parameter types"
  let .slice elem <- underlying t | stuck "slices.overlaps: slice type expected"
  let size <- sizeOf elem
  match B, (some (ad b o) : Option Addr) with
  | some a, some b =>
   if m = 0 \/ lb = 0 \/ size = 0 then pure (Value.bool false)
   else if a.block != b.block && (<- frozen a) && (<- frozen b) then unsupported .addressObserved
   else do
    if a.block != b.block then do
     noView a; noView b
     if <- mayBeOne a b then return Value.bool ((<- choose (.extern "sameAddr.stringBytes" 2)) == 1)
    pure (Value.bool (a.block == b.block && a.off < b.off + lb * size && b.off < a.off + m * size))
  | _, _ => pure (Value.bool false)) w = _
 cases B with
 | none => simp [run_underlying ht, hz]
 | some a =>
  by_cases h0 : m = 0 \/ lb = 0 \/ size = 0
  ·simp [run_underlying ht, hz, h0]
  ·have hm : 0 < m := by omega
   obtain ⟨hne, ta, k, hsa⟩ := hB a rfl hm
   have hnb : (a.block != b) = true := by simpa using hne
   have hnb' : (a.block == b) = false := by simpa using hne
   obtain ⟨n, hn⟩ : ∃ n, vals.size = n + 1 := ⟨vals.size - 1, by omega⟩
   rw [hn] at hsb f2
   simp [run_underlying ht, hz, h0, hnb, hnb', hne, frozen, noView, viewAt, mayBeOne, stringish, shape, Sem.run, hsa, hsb, f1, f2]
theorem first_of {w : World} {sz m b o len cap : Nat} {cs : List Value} (hl : cs.length = m * sz) (h : ∀ j u, cs[j]? = some u -> w.cell? (ad b (o + j)) = some u) : (Builtin.firstCells sz m (.slice (some (ad b o)) len cap)).run P w = .ok cs.toArray w :=
 run_firstCells_some w sz m _ _ _ cs hl (fun j v hj => by rw [Addr.add_ad]; exact h j v hj)
theorem insert_run {sz : Nat} (l : L P ρ nm sz) {inf : TypeInfo} {z : Value} (hi : P.info? (ρ.t 9) = some inf) (hz : inf.zero = some z) (hzs : z.cells.size = sz) (hsz : inf.size = sz) (hpos : 0 < sz)
  (hov : ∀ args w, (callFunc (ρ.f 29) args).run P w = ((Extern.SlicesOverlaps.overlaps #[ρ.t 24, ρ.t 24] #[ρ.t 4] args).run P w).andThen fun v w' => .ok (.value v) w')
  {w : World} {p : Pl} (hp : p.sz = sz) (pre : Pre w p) {i m vc : Nat} {B : Option Addr} {news : List Value} (hin : i <= p.n) (hv : news.length = m * sz) (hB : m = 0 \/ ∃ b2 o2, B = some (ad b2 o2) /\ (p.nil = false -> b2 ≠ p.blk) /\ ∀ j u, news[j]? = some u -> w.cell? (ad b2 (o2 + j)) = some u)
  (hone : ∀ v ∈ news, v.oneCell' = true) (h1 : (p.n + m) * inf.bytes <= 140737488355328) (h2 : p.n + m <= 9223372036854775807) (hone2 : ∀ vals k v, p.nil = false -> Blk w p.blk vals -> k < p.n * sz -> vals[p.off + k]? = some v -> v.oneCell' = true) :
  ∃ p' w', Insd w w' p p' i m news /\ Calls P (ρ.f 22) #[hdr p, .int .i64 i, .slice B m vc] w (fun e w2 => e = .returned (hdr p') /\ w2 = w') := by
 subst hp
 have hnm : p.n <= 9223372036854775807 := by omega
 rcases Nat.eq_zero_or_pos m with rfl | hm
 ·refine ⟨p, w, ⟨rfl, rfl, fun h => ⟨(pre.nil h).2, (pre.nil h).1, rfl⟩, fun h => ?_, fun h => .inl ⟨h, rfl⟩, fun _ _ _ => rfl, Nat.le_refl _, rfl, rfl, rfl⟩, ?_⟩
  ·obtain ⟨vals, hb, q1, q2, q3⟩ := pre.mem h
   refine ⟨vals, hb, q1, q2, q3, fun k u _ hu => by rw [<- hb.cell]; exact hu, fun k hk => by simp at hk, fun k u _ hu => ?_⟩
   rw [<- hb.cell, Nat.add_zero]; exact hu
  ·cases hq : p.nil with
   | true =>
    have h0 := (pre.nil hq).1
    rw [hdr_nil hq]
    have := zero l w none B 0 0 i vc (by omega) (by omega) (.inl ⟨rfl, rfl⟩)
    exact this
   | false =>
    rw [hdr_of_pos hq]
    exact zero l w _ B p.n p.cap i vc hin hnm (.inr ⟨_, _, rfl⟩)
 ·obtain ⟨b2, o2, rfl, hb2, hcell⟩ := hB.resolve_left (by omega)
  by_cases hend : i = p.n
  ·subst hend
   have happ : App P w (ρ.t 24) (.slice (some (ad b2 o2)) m vc) z.cells p.sz m news := by
    refine ⟨.inl ⟨.inl ⟨_, l.t24⟩, by simp [Builtin.lenOf], first_of hv hcell, first_of (w := w.drew) hv hcell⟩, hv, hone⟩
   obtain ⟨p', w', hr, hA⟩ := run_appendG (P := P) (w := w) (t := ρ.t 24) (u := ρ.t 24) (ty := 0) (p := p) l.t24 hi hz hzs hsz (fun h => (pre.nil h).1) pre.mem happ h1 h2
   refine ⟨p', w', ⟨hA.n, hA.sz, hA.nil, fun h => ?_, hA.blk, hA.old, hA.size, hA.os, hA.tape, hA.output⟩, ?_⟩
   ·obtain ⟨vals', q1, q2, q3, q4, q5, q6⟩ := hA.mem h
    exact ⟨vals', q1, q2, q3, q4, q5, q6, fun k u hk _ => by simp at hk⟩
   ·have hr' : ∀ ty, (Builtin.append_ #[ρ.t 24, ρ.t 24] ty #[hdr p, .slice (some (ad b2 o2)) m vc]).run P w = .ok (hdr p') w' := fun ty => hr
    cases hq : p.nil with
    | true =>
     have h0 := (pre.nil hq).1
     rw [hdr_nil hq] at hr' ⊢
     have := atEnd l w w' none (some (ad b2 o2)) 0 0 m vc (hdr p') hm (by omega) (.inl ⟨rfl, rfl⟩) hr'
     rw [h0]; exact this
    | false =>
     rw [hdr_of_pos hq] at hr' ⊢
     exact atEnd l w w' _ (some (ad b2 o2)) p.n p.cap m vc (hdr p') hm hnm (.inr ⟨_, _, rfl⟩) hr'
  ·have hlt : i < p.n := by omega
   have hq : p.nil = false := by
    cases h : p.nil with
    | false => rfl
    | true => have := (pre.nil h).1; omega
   obtain ⟨vals, hb, hnc, hcm, hfit⟩ := pre.mem hq
   have hne := hb2 hq
   rw [hdr_of_pos hq]
   have m1 : i * p.sz <= p.n * p.sz := Nat.mul_le_mul_right _ hin
   have m2 : p.n * p.sz <= p.cap * p.sz := Nat.mul_le_mul_right _ hnc
   have e1 : (i + m) * p.sz = i * p.sz + m * p.sz := Nat.add_mul _ _ _
   have e2 : (p.n - i) * p.sz = p.n * p.sz - i * p.sz := Nat.sub_mul _ _ _
   have m0 : i * p.sz + p.sz <= p.n * p.sz := by have := Nat.mul_le_mul_right p.sz (show i + 1 <= p.n by omega); rwa [Nat.add_mul, Nat.one_mul] at this
   have hp0 : p.sz <= m * p.sz := Nat.le_mul_of_pos_left _ hm
   have n1 : Nat.min (p.n + m - i) (p.n + m - (i + m)) = p.n - i := by simp only [Nat.min_def]; split <;> omega
   have n2 : Nat.min m (p.n + m - i) = m := by simp only [Nat.min_def]; split <;> omega
   have n3 : Nat.min (p.n - i) (p.n + m - (i + m)) = p.n - i := by simp only [Nat.min_def]; split <;> omega
   let tail := (vals.toList.drop (p.off + i * p.sz)).take ((p.n - i) * p.sz)
   have htl : tail.length = (p.n - i) * p.sz := by simp only [tail, List.length_take, List.length_drop, Array.length_toList]; omega
   have htg : ∀ k, k < (p.n - i) * p.sz -> tail[k]? = vals[p.off + i * p.sz + k]? := fun k hk => by
    simp only [tail, List.getElem?_take, if_pos hk, List.getElem?_drop, Array.getElem?_toList]
   have ht1 : ∀ v ∈ tail, v.oneCell' = true := fun v hv => by
    obtain ⟨k, hk⟩ := List.getElem?_of_mem hv
    have hkl : k < (p.n - i) * p.sz := by rw [<- htl]; exact (List.getElem?_eq_some_iff.1 hk).1
    rw [htg k hkl] at hk
    exact hone2 vals (i * p.sz + k) v hq hb (by omega) (by rw [<- Nat.add_assoc]; exact hk)
   by_cases hroom : p.n + m <= p.cap
   ·-- in place
    have m3 : (p.n + m) * p.sz <= p.cap * p.sz := Nat.mul_le_mul_right _ hroom
    rw [Nat.add_mul] at m3
    have hl1 : p.off + (i + m) * p.sz + tail.length <= vals.size := by rw [htl]; omega
    have hb1 : Blk (w.drew.setRow p.blk (putAt vals (p.off + (i + m) * p.sz) tail)) p.blk (putAt vals (p.off + (i + m) * p.sz) tail) := Blk.setRow (w := w.drew) (blk_drew hb) (size_putAt hl1)
    have hl2 : p.off + i * p.sz + news.length <= (putAt vals (p.off + (i + m) * p.sz) tail).size := by rw [size_putAt hl1, hv]; omega
    have c1 : ∀ ty, (Builtin.copy_ #[ρ.t 24, ρ.t 24] ty #[.slice (some ⟨p.blk, p.off + (i + m) * p.sz, none⟩) (p.n + m - (i + m)) (p.cap - (i + m)), .slice (some ⟨p.blk, p.off + i * p.sz, none⟩) (p.n + m - i) (p.cap - i)]).run P w.drew = .ok (goInt ((p.n - i : Nat) : Int)) (w.drew.setRow p.blk (putAt vals (p.off + (i + m) * p.sz) tail)) := fun ty =>
     run_copyG (P := P) (w := w.drew) l.t24 l.z9 (first_of (w := w.drew) htl (fun j u hj => by
      have hjl : j < (p.n - i) * p.sz := by rw [<- htl]; exact (List.getElem?_eq_some_iff.1 hj).1
      rw [htg j hjl] at hj
      exact (hb.cell _).trans hj)) n1 (blk_drew hb) hl1 ht1
    have c2 : ∀ ty, (Builtin.copy_ #[ρ.t 24, ρ.t 24] ty #[.slice (some ⟨p.blk, p.off + i * p.sz, none⟩) (p.n + m - i) (p.cap - i), .slice (some (ad b2 o2)) m vc]).run P (w.drew.setRow p.blk (putAt vals (p.off + (i + m) * p.sz) tail)) = .ok (goInt m) ((w.drew.setRow p.blk (putAt vals (p.off + (i + m) * p.sz) tail)).setRow p.blk (putAt (putAt vals (p.off + (i + m) * p.sz) tail) (p.off + i * p.sz) news)) := fun ty =>
     run_copyG (P := P) l.t24 l.z9 (first_of hv (fun j u hj => by rw [cell_setRow_other hne]; exact hcell j u hj)) n2 hb1 hl2 hone
    have hcal := shift l w _ _ _ _ p.blk p.off p.n p.cap i m vc (some (ad b2 o2)) hlt hm hroom hcm (fun lb cb => by
     rw [hov, overlaps_false (P := P) (w := w) l.t24 l.z9 hb (o := p.off + (i + m) * p.sz) (by omega) (fun a ha _ => by
      cases ha
      have h0 : 0 < news.length := by rw [hv]; omega
      have := hcell 0 _ (List.getElem?_eq_getElem h0)
      refine ⟨hne, ?_⟩
      unfold World.cell? at this
      unfold World.shape?
      split at this
      ·rename_i cc tt ff hg
       rw [hg]
       simp at this
       obtain ⟨hlt2, _⟩ := Array.getElem?_eq_some_iff.1 this
       exact ⟨tt, cc.size - 1, by simp; omega⟩
      ·cases this) lb cb]
     rfl) c1 c2
    refine ⟨⟨false, p.blk, p.off, p.cap, p.n + m, p.sz⟩, (w.drew.setRow p.blk (putAt vals (p.off + (i + m) * p.sz) tail)).setRow p.blk (putAt (putAt vals (p.off + (i + m) * p.sz) tail) (p.off + i * p.sz) news), ⟨rfl, rfl, fun h => (by cases h), fun _ => ?_, fun _ => .inl ⟨hq, rfl⟩, fun b hb' hnb => ?_, by simp [World.setRow], rfl, rfl, rfl⟩, by rw [hdr_of_pos rfl]; exact hcal⟩
    ·refine ⟨_, hb1.setRow (size_putAt hl2), hroom, hcm, by rw [size_putAt hl2, size_putAt hl1]; exact hfit, fun k u hk hu => ?_, fun k hk => ?_, fun k u hk hu => ?_⟩
     ·show (putAt (putAt vals (p.off + (i + m) * p.sz) tail) (p.off + i * p.sz) news)[p.off + k]? = some u
      rw [putAt_get hl2, if_neg (by omega), putAt_get hl1, if_neg (by omega), <- hb.cell]; exact hu
     ·show (putAt (putAt vals (p.off + (i + m) * p.sz) tail) (p.off + i * p.sz) news)[p.off + i * p.sz + k]? = news[k]?
      rw [putAt_get hl2, if_pos (by rw [hv]; omega)]; congr 1; omega
     ·show (putAt (putAt vals (p.off + (i + m) * p.sz) tail) (p.off + i * p.sz) news)[p.off + (i + m) * p.sz + k]? = some u
      rw [putAt_get hl2, if_neg (by rw [hv]; omega), putAt_get hl1, if_pos (by rw [htl]; omega), show p.off + (i + m) * p.sz + k - (p.off + (i + m) * p.sz) = k by omega, htg k hk, <- hb.cell]; exact hu
    ·have hbne : b ≠ p.blk := hnb rfl
     rw [setRow_other _ _ b _ hbne, setRow_other _ _ b _ hbne]; rfl
   ·-- a new row
    have hgo : p.cap < p.n + m := by omega
    let olds := (vals.toList.drop p.off).take (i * p.sz)
    have hol : olds.length = i * p.sz := by simp only [olds, List.length_take, List.length_drop, Array.length_toList]; omega
    have hog : ∀ k, k < i * p.sz -> olds[k]? = vals[p.off + k]? := fun k hk => by simp only [olds, List.getElem?_take, if_pos hk, List.getElem?_drop, Array.getElem?_toList]
    have hik : i + (p.n + m - i) = p.n + m := by omega
    have hkk : (p.n : Int) + (m : Int) - (i : Int) = ((p.n + m - i : Nat) : Int) := by omega
    have hold : (Builtin.firstCells inf.size i (.slice (some (ad p.blk p.off)) i p.cap)).run P w.drew = .ok olds.toArray w.drew := by
     rw [hsz]
     exact first_of (w := w.drew) hol (fun j u hj => by
      have hjl : j < i * p.sz := by rw [<- hol]; exact (List.getElem?_eq_some_iff.1 hj).1
      rw [hog j hjl] at hj
      exact (hb.cell _).trans hj)
    have hG := grownCap_ge w (p.n + m) p.cap (ρ.t 9)
    have hG2 := grownCap_le_maxLen w (p.n + m) p.cap (ρ.t 9) (by unfold maxLen; omega)
    generalize hGd : grownCap w (p.n + m) p.cap (ρ.t 9) = G at hG hG2
    obtain ⟨arr, harr⟩ : ∃ arr : Array Value, arr = olds.toArray ++ Builtin.zeroCells z.cells (p.n + m - i) ++ Builtin.zeroCells z.cells (G - (p.n + m)) := ⟨_, rfl⟩
    have a1 : ∀ ty, (Builtin.append_ #[ρ.t 24, ρ.t 3] ty #[.slice (some ⟨p.blk, p.off, none⟩) i p.cap, .int .i64 ((p.n : Int) + (m : Int) - (i : Int))]).run P w = .ok (.slice (some ⟨w.heap.size, 0, none⟩) (p.n + m) G) (w.drew.alloc (.cells arr (ρ.t 9))) := fun ty => by
     have hmb : (p.n + m - i) * inf.bytes <= (p.n + m) * inf.bytes := Nat.mul_le_mul_right _ (by omega)
     have h := Lib.run_append_grow_zeros w (ρ.t 24) (ρ.t 3) ty (ρ.t 9) inf z .i64 .i64 l.t24 l.t3 hi hz (some (ad p.blk p.off)) i p.cap olds hold (p.n + m - i) (by omega) (by omega) (by omega) (by omega) (by omega) (by rw [hik]; exact growslice_fits hgo h1)
     rw [hik, hGd, <- harr] at h
     rw [hkk]; exact h
    have sarr : arr.size = i * p.sz + (p.n + m - i) * p.sz + (G - (p.n + m)) * p.sz := by
     rw [harr]; simp only [Array.size_append, List.size_toArray, size_zeroCells, hzs, hol]
    have e3 : (p.n + m - i) * p.sz = p.n * p.sz + m * p.sz - i * p.sz := by rw [Nat.sub_mul, Nat.add_mul]
    have e4 : G * p.sz = (p.n * p.sz + m * p.sz) + (G - (p.n + m)) * p.sz := by rw [<- Nat.add_mul, <- Nat.add_mul]; congr 1; omega
    have hbw : p.blk < w.heap.size := hb.lt
    have hb0 : Blk (w.drew.alloc (.cells arr (ρ.t 9))) w.heap.size arr := Blk.alloc w.drew arr _
    have hl1 : i * p.sz + news.length <= arr.size := by rw [sarr, hv]; omega
    have hb1 := hb0.setRow (new := putAt arr (i * p.sz) news) (size_putAt hl1)
    have hl2 : (i + m) * p.sz + tail.length <= (putAt arr (i * p.sz) news).size := by rw [size_putAt hl1, sarr, htl]; omega
    have hb2w : b2 < w.heap.size := by
     have h0 : 0 < news.length := by rw [hv]; omega
     exact block_lt_of_cell (hcell 0 _ (List.getElem?_eq_getElem h0))
    have oldc : ∀ b o, b < w.heap.size -> (w.drew.alloc (.cells arr (ρ.t 9))).cell? (ad b o) = w.cell? (ad b o) := fun b o hbl => World.cell?_of_block (heap_alloc_old w.drew _ hbl)
    have c1 : ∀ ty, (Builtin.copy_ #[ρ.t 24, ρ.t 24] ty #[.slice (some ⟨w.heap.size, i * p.sz, none⟩) (p.n + m - i) (G - i), .slice (some (ad b2 o2)) m vc]).run P (w.drew.alloc (.cells arr (ρ.t 9))) = .ok (goInt m) ((w.drew.alloc (.cells arr (ρ.t 9))).setRow w.heap.size (putAt arr (i * p.sz) news)) := fun ty =>
     run_copyG (P := P) l.t24 l.z9 (first_of hv (fun j u hj => by rw [oldc _ _ hb2w]; exact hcell j u hj)) n2 hb0 hl1 hone
    have c2 : ∀ ty, (Builtin.copy_ #[ρ.t 24, ρ.t 24] ty #[.slice (some ⟨w.heap.size, (i + m) * p.sz, none⟩) (p.n + m - (i + m)) (G - (i + m)), .slice (some ⟨p.blk, p.off + i * p.sz, none⟩) (p.n - i) (p.cap - i)]).run P ((w.drew.alloc (.cells arr (ρ.t 9))).setRow w.heap.size (putAt arr (i * p.sz) news)).drew = .ok (goInt ((p.n - i : Nat) : Int)) (((w.drew.alloc (.cells arr (ρ.t 9))).setRow w.heap.size (putAt arr (i * p.sz) news)).drew.setRow w.heap.size (putAt (putAt arr (i * p.sz) news) ((i + m) * p.sz) tail)) := fun ty =>
     run_copyG (P := P) (w := ((w.drew.alloc (.cells arr (ρ.t 9))).setRow w.heap.size (putAt arr (i * p.sz) news)).drew) l.t24 l.z9 (first_of htl (fun j u hj => by
      have hjl : j < (p.n - i) * p.sz := by rw [<- htl]; exact (List.getElem?_eq_some_iff.1 hj).1
      rw [htg j hjl] at hj
      show ((w.drew.alloc (.cells arr (ρ.t 9))).setRow w.heap.size (putAt arr (i * p.sz) news)).cell? (ad p.blk (p.off + i * p.sz + j)) = some u
      rw [cell_setRow_other (by omega), oldc _ _ hbw]
      exact (hb.cell _).trans hj)) n3 (blk_drew hb1) hl2 ht1
    have hcal := grow l w _ _ _ _ _ p.blk p.off w.heap.size p.n p.cap G i m vc (some (ad b2 o2)) hlt hm hnc hgo h2 hG hG2 a1 c1 c2
    refine ⟨⟨false, w.heap.size, 0, G, p.n + m, p.sz⟩, ((w.drew.alloc (.cells arr (ρ.t 9))).setRow w.heap.size (putAt arr (i * p.sz) news)).drew.setRow w.heap.size (putAt (putAt arr (i * p.sz) news) ((i + m) * p.sz) tail), ⟨rfl, rfl, fun h => (by cases h), fun _ => ?_, fun _ => .inr rfl, fun b hb' hnb => ?_, by simp [World.setRow], rfl, rfl, rfl⟩, by rw [hdr_of_pos rfl]; exact hcal⟩
    ·refine ⟨_, Blk.setRow (w := ((w.drew.alloc (.cells arr (ρ.t 9))).setRow w.heap.size (putAt arr (i * p.sz) news)).drew) (blk_drew hb1) (size_putAt hl2), hG, hG2, by rw [size_putAt hl2, size_putAt hl1, sarr]; show 0 + G * p.sz <= _; omega, fun k u hk hu => ?_, fun k hk => ?_, fun k u hk hu => ?_⟩
     ·show (putAt (putAt arr (i * p.sz) news) ((i + m) * p.sz) tail)[0 + k]? = some u
      rw [Nat.zero_add, putAt_get hl2, if_neg (by omega), putAt_get hl1, if_neg (by omega), harr, Array.append_assoc, Array.getElem?_append_left (by simp [hol]; omega), List.getElem?_toArray, hog k hk, <- hb.cell]; exact hu
     ·show (putAt (putAt arr (i * p.sz) news) ((i + m) * p.sz) tail)[0 + i * p.sz + k]? = news[k]?
      rw [Nat.zero_add, putAt_get hl2, if_neg (by omega), putAt_get hl1, if_pos (by rw [hv]; omega)]; congr 1; omega
     ·show (putAt (putAt arr (i * p.sz) news) ((i + m) * p.sz) tail)[0 + (i + m) * p.sz + k]? = some u
      rw [Nat.zero_add, putAt_get hl2, if_pos (by rw [htl]; omega), show (i + m) * p.sz + k - (i + m) * p.sz = k by omega, htg k hk, <- hb.cell]; exact hu
    ·have hbne : b ≠ w.heap.size := by omega
     rw [setRow_other _ _ b _ hbne]
     show ((w.drew.alloc (.cells arr (ρ.t 9))).setRow w.heap.size (putAt arr (i * p.sz) news)).heap[b]? = _
     rw [setRow_other _ _ b _ hbne, heap_alloc_old w.drew _ hb']; rfl
end
end Go.FG.Ins

namespace Go.FG.Ins
open Go Go.Shelf Go.RowKit Go.Lib Go.Proofs
abbrev ofTab (T : Tab) : Env := { toTab := T, call := fun _ _ => none, om := fun _ _ => .nat, mode := fun _ _ => false, keep := fun _ => [], tk := fun _ => false }
theorem holdsK {T : Tab} {w : World} {K : Nat -> Prop} {v : Value} {e : Nat} {ys : Row} (h : Holds T w K v (.l e ys)) (h0 : ys ≠ []) {b o n c : Nat} (hv : v = .slice (some (ad b o)) n c) : K b := by
 cases h with
 | nl => exact absurd rfl h0
 | l e xs b' o' c' ti' U ht hc hm hK hs hcell hin => cases hv; exact hK
def insSpec (e bytes : Nat) : List Arg -> Option (Bool × Res)
 | [.v false [.ow e1 true xs], .v false [.i .i64 i], .v false [.sh e2 ys]] => bif Nat.beq e1 e && Nat.beq e2 e then
   some (decide (0 <= i) && decide (i <= (xs.length : Int)) && roomy (xs.length + ys.length) bytes, ⟨[.v false [.ow e true (Pu.insR xs i.toNat ys)]], []⟩) else none
 | _ => none
theorem insR_get {xs ys : Row} {i : Nat} (h : i <= xs.length) (k : Nat) (y : List CV) (hk : (Pu.insR xs i ys)[k]? = some y) :
  (k < i /\ xs[k]? = some y) \/ (i <= k /\ k < i + ys.length /\ ys[k - i]? = some y) \/ (i + ys.length <= k /\ xs[k - ys.length]? = some y) := by
 unfold Pu.insR at hk
 have hl : (xs.take i).length = i := by simp; omega
 by_cases h1 : k < i
 ·rw [List.append_assoc, List.getElem?_append_left (by omega), List.getElem?_take, if_pos h1] at hk
  exact .inl ⟨h1, hk⟩
 ·by_cases h2 : k < i + ys.length
  ·rw [List.append_assoc, List.getElem?_append_right (by omega), hl, List.getElem?_append_left (by omega)] at hk
   exact .inr (.inl ⟨by omega, h2, hk⟩)
  ·rw [List.getElem?_append_right (by simp; omega), List.getElem?_drop] at hk
   refine .inr (.inr ⟨by omega, ?_⟩)
   rw [<- hk]; congr 1; simp; omega
theorem agg_false {P : Program} {t : Nat} {d : TypeDesc} (h : P.underlying t = some d) (hb : notBig d = true) (w : World) : (Go.isAgg t).run P w = .ok false w := by
 simp only [Go.isAgg, Sem.run_bind, run_underlying h, Result.andThen_ok]
 cases d <;> simp_all [notBig]
theorem size_of {P : Program} {T : Tab} (hE : EnvOk P T) {t : Nat} {ti : TI} (h : T.ty t = some ti) (w : World) : (sizeOf t).run P w = .ok ti.ks.length w := by
 obtain ⟨inf, hi, hs, _⟩ := hE.info t ti h
 simp only [sizeOf, typeInfo, program, Sem.run_bind, Sem.run, Result.andThen_ok, hi, hs, Sem.run_pure]
section
variable {P : Program} {ρ : Ren} {nm : String} {T : Tab}
theorem insert_ok {e : Nat} {te : TI} (he : T.ty e = some te) (hρ : ρ.t 9 = e) (hp : plain te.ks = true) (hE : EnvOk P T) (l : L P ρ nm te.ks.length)
  (hov : ∀ args w, (callFunc (ρ.f 29) args).run P w = ((Extern.SlicesOverlaps.overlaps #[ρ.t 24, ρ.t 24] #[ρ.t 4] args).run P w).andThen fun v w' => .ok (.value v) w')
  (hfn : ∃ fn, P.funcs[ρ.f 22]? = some fn /\ fn.body.isSome = true /\ (fn.name == "runtime.NumGoroutine") = false) : FnOk P T (ρ.f 22) (insSpec e te.bytes) := by
 have hno : noO te.ks = true := List.all_eq_true.2 fun k hk => by have := List.all_eq_true.1 hp k hk; cases k <;> simp_all
 obtain ⟨inf, hi, hsz, hby, hpos, hzz⟩ := hE.info e te he
 obtain ⟨z, hz, hzc, _⟩ := hzz hno
 have hzs : z.cells.size = te.ks.length := by rw [hzc]; simp
 intro args r h w c1 vs hok hs hv
 refine ⟨hfn, ?_⟩
 unfold insSpec at h
 split at h
 ·rename_i e1 xs i e2 ys
  cases hb : (Nat.beq e1 e && Nat.beq e2 e) with
  | false => rw [hb] at h; cases h
  | true =>
   rw [hb, cond_true] at h
   simp only [Bool.and_eq_true] at hb
   have := Nat.eq_of_beq_eq_true hb.1; subst this
   have := Nat.eq_of_beq_eq_true hb.2; subst this
   have h := Option.some.inj h
   obtain ⟨hc, rfl⟩ := Prod.mk.inj h
   simp only [Bool.and_eq_true, decide_eq_true_eq, roomy] at hc
   obtain ⟨⟨c0, c2⟩, c3, c4⟩ := hc
   obtain ⟨v0, g0, s0⟩ := hv 0 _ rfl
   obtain ⟨v1, g1, s1⟩ := hv 1 _ rfl
   obtain ⟨v2, g2, s2⟩ := hv 2 _ rfl
   have hvs : vs = #[v0, v1, v2] := by
    have h3 : vs.size = 3 := hs
    apply Array.ext_getElem?
    intro k
    match k with
    | 0 => rw [g0]; rfl
    | 1 => rw [g1]; rfl
    | 2 => rw [g2]; rfl
    | k + 3 => rw [Array.getElem?_eq_none (by omega), Array.getElem?_eq_none (by simp)]
   subst hvs
   have s0 : v0 = hdr (c1.P (nmA 0 0)) := s0
   have s1 : v1 = .int .i64 i := s1
   have s2 : Holds T w c1.K v2 (.l e2 ys) := s2
   subst s0; subst s1
   have hob : inj [.v false [.ow e2 true xs], .v false [.i .i64 i], .v false [.sh e2 ys]] (obk (nmA 0 0)) = .o (.row e2 true xs) := rfl
   obtain ⟨⟨ti, ht, hps, hsh⟩, hat, hinn⟩ := hok.obj _ _ hob
   have hti : ti = te := Option.some.inj (ht.symm.trans he)
   subst hti
   generalize hpd : c1.P (nmA 0 0) = p at hat hps
   have pre : Pre w p := ⟨fun h => by have := hat.nil h; exact ⟨by rw [hat.n, this.1]; rfl, this.2⟩, fun h => by obtain ⟨vals, q1, q2, q3, q4, _⟩ := hat.mem h; exact ⟨vals, q1, q2, q3, q4⟩⟩
   obtain ⟨n, rfl⟩ : ∃ n : Nat, i = (n : Int) := ⟨i.toNat, by omega⟩
   have hnx : n <= xs.length := by omega
   have hsrc := src_holds (E := ofTab T) he s2
   have hyl : ∀ y ∈ ys, y.length = ti.ks.length := fun y hy => by rw [<- hsrc.2 y hy]; simp
   have hxl : ∀ y ∈ xs, y.length = ti.ks.length := fun y hy => by rw [<- hsh y hy]; simp
   obtain ⟨B, vc, news, hv2, n1, n2, n3⟩ := hsrc.1.list hyl
   have cellOf : ∀ k, k < ys.length * ti.ks.length -> ∃ y x, ys[k / ti.ks.length]? = some y /\ y[k % ti.ks.length]? = some x /\ k / ti.ks.length * ti.ks.length + k % ti.ks.length = k := by
    intro k hk
    have h1 : k / ti.ks.length < ys.length := by rw [Nat.div_lt_iff_lt_mul hpos]; exact hk
    have h2 : k % ti.ks.length < ys[k / ti.ks.length].length := by rw [hyl _ (List.getElem_mem h1)]; exact Nat.mod_lt _ hpos
    refine ⟨_, _, List.getElem?_eq_getElem h1, List.getElem?_eq_getElem h2, ?_⟩
    have := Nat.div_add_mod k ti.ks.length; rw [Nat.mul_comm] at this; exact this
   have hone : ∀ v ∈ news, v.oneCell' = true := fun v hv => by
    obtain ⟨k, hk⟩ := List.getElem?_of_mem hv
    have hkl : k < ys.length * ti.ks.length := by rw [<- n1]; exact (List.getElem?_eq_some_iff.1 hk).1
    obtain ⟨y, x, q1, q2, q3⟩ := cellOf k hkl
    obtain ⟨u, hu, hr⟩ := n3 _ _ _ _ q1 q2
    rw [q3, hk] at hu; cases hu
    exact Holds.one (E := ofTab T) hr
   have hKne : ∀ b, c1.K b -> p.nil = false -> b ≠ p.blk := fun b hk hn he => by
    exact hok.kk _ _ p.blk hob (.inl ⟨by rw [hpd]; exact hn, by rw [hpd]⟩) (he ▸ hk)
   have hB : ys.length = 0 \/ ∃ b2 o2, B = some (ad b2 o2) /\ (p.nil = false -> b2 ≠ p.blk) /\ ∀ j u, news[j]? = some u -> w.cell? (ad b2 (o2 + j)) = some u := by
    rcases n2 with rfl | ⟨b2, o2, rfl, hc2⟩
    ·exact .inl rfl
    ·by_cases h0 : ys = []
     ·subst h0; exact .inl rfl
     ·refine .inr ⟨b2, o2, rfl, fun hn => ?_, hc2⟩
      exact hKne _ (holdsK s2 h0 hv2) hn
   have xrel : ∀ (k : Nat) (y : List CV) (j : Nat) (x : CV), p.nil = false -> xs[k]? = some y -> y[j]? = some x -> ∃ u, w.cell? (ad p.blk (p.off + k * p.sz + j)) = some u /\ Sc u x := by
    intro k y j x hn hk hj
    obtain ⟨vals, q1, q2, q3, q4, q5⟩ := hat.mem hn
    obtain ⟨u, hu, hr⟩ := q5 k y j x hk hj
    rw [if_pos rfl] at hr
    exact ⟨u, by rw [q1.cell]; exact hu, xc_scal (E := ofTab T) hr (plain_kd hp (hsh y (List.mem_of_getElem? hk)) hj)⟩
   have hone2 : ∀ vals k v, p.nil = false -> Blk w p.blk vals -> k < p.n * p.sz -> vals[p.off + k]? = some v -> v.oneCell' = true := by
    intro vals k v hn hbv hk hkv
    rw [hps] at hk
    have h1 : k / ti.ks.length < xs.length := by rw [Nat.div_lt_iff_lt_mul hpos, <- hat.n]; exact hk
    have h2 : k % ti.ks.length < xs[k / ti.ks.length].length := by rw [hxl _ (List.getElem_mem h1)]; exact Nat.mod_lt _ hpos
    obtain ⟨u, hu, hsc⟩ := xrel _ _ _ _ hn (List.getElem?_eq_getElem h1) (List.getElem?_eq_getElem h2)
    have := Nat.div_add_mod k ti.ks.length; rw [Nat.mul_comm] at this
    rw [hps, show p.off + k / ti.ks.length * ti.ks.length + k % ti.ks.length = p.off + k by omega, hbv.cell, hkv] at hu
    cases hu
    rw [hsc.1]; exact scal_one
   rw [hv2]
   obtain ⟨p', w', hI, hcal⟩ := insert_run (P := P) (sz := ti.ks.length) l (by rw [hρ]; exact hi) hz hzs hsz hpos hov hps pre (i := n) (m := ys.length) (vc := vc) (by rw [hat.n]; exact hnx) n1 hB hone (by rw [hat.n, hby]; exact c3) (by rw [hat.n]; exact c4) (fun vals k v h1 h2 h3 h4 => hone2 vals k v h1 h2 (by rw [hps]; exact h3) h4)
   refine hcal.mono ?_
   intro e1 w2 hh
   rw [hh.1, hh.2]
   show RetOk T _ _ c1 w (hdr p') w'
   rw [Int.toNat_natCast]
   generalize hzd : Pu.insR xs n ys = zs
   have hzl : zs.length = xs.length + ys.length := by rw [<- hzd]; unfold Pu.insR; simp; omega
   have hzg : ∀ (k : Nat) (y : List CV), zs[k]? = some y -> (k < n /\ xs[k]? = some y) \/ (n <= k /\ k < n + ys.length /\ ys[k - n]? = some y) \/ (n + ys.length <= k /\ xs[k - ys.length]? = some y) := fun k y hk => insR_get hnx k y (by rw [hzd]; exact hk)
   have hzsh : ∀ y ∈ zs, y.map CV.kd = ti.ks := fun y hy => by
    obtain ⟨k, hk⟩ := List.getElem?_of_mem hy
    rcases hzg k y hk with ⟨_, h⟩ | ⟨_, _, h⟩ | ⟨_, h⟩
    ·exact hsh y (List.mem_of_getElem? h)
    ·exact hsrc.2 y (List.mem_of_getElem? h)
    ·exact hsh y (List.mem_of_getElem? h)
   have hzp : ∀ (k : Nat) (y : List CV) (j : Nat) (x : CV), zs[k]? = some y -> y[j]? = some x -> isL x = false := fun k y j x hk hj => plain_kd hp (hzsh y (List.mem_of_getElem? hk)) hj
   let c3 : Cor := ⟨fun m => if m = nmA 500 0 then p' else c1.P m, fun m => if m = nmA 500 0 then (fun _ _ => ⟨true, 0, 0, 0, 0, 0⟩) else c1.G m, c1.K⟩
   have hP3 : c3.P (nmA 500 0) = p' := by simp [c3]
   have hG3 : c3.G (nmA 500 0) = fun _ _ => ⟨true, 0, 0, 0, 0, 0⟩ := by simp [c3]
   have hO : ∀ m o, exitS [.v false [.ow e2 true xs], .v false [.i .i64 n], .v false [.sh e2 ys]] ⟨[.v false [.ow e2 true zs]], []⟩ (obk m) = .o o -> m = nmA 500 0 /\ o = .row e2 true zs := by
    intro m o ho
    have hm := tabl_mem ho (by simp)
    simp [resL, outL, injOs, injObs, injOb, outOs, outObs] at hm
    exact ⟨obk_inj hm.1, hm.2⟩
   have hX : exitS [.v false [.ow e2 true xs], .v false [.i .i64 n], .v false [.sh e2 ys]] ⟨[.v false [.ow e2 true zs]], []⟩ (obk (nmA 500 0)) = .o (.row e2 true zs) := rfl
   have noInn : ∀ i j, ¬ InnAt zs i j := by
    rintro i j ⟨y, x, h1, h2, h3⟩
    rw [hzp i y j x h1 h2] at h3; cases h3
   have noInnX : ∀ i j, ¬ InnAt xs i j := by
    rintro i j ⟨y, x, h1, h2, h3⟩
    rw [plain_kd hp (hsh y (List.mem_of_getElem? h1)) h2] at h3; cases h3
   have hfoot : ∀ b, foot c3 (nmA 500 0) (.row e2 true zs) b -> p'.nil = false /\ b = p'.blk := by
    rintro b (⟨h1, h2⟩ | ⟨_, i, j, h, _⟩)
    ·rw [hP3] at h1 h2; exact ⟨h1, h2⟩
    ·exact absurd h (noInn i j)
   have hOwn1 : p.nil = false -> Own (inj [.v false [.ow e2 true xs], .v false [.i .i64 n], .v false [.sh e2 ys]]) c1 p.blk := fun hn => ⟨_, _, hob, .inl ⟨by rw [hpd]; exact hn, by rw [hpd]⟩⟩
   have hnew : p'.nil = false -> p'.blk = w.heap.size \/ Own (inj [.v false [.ow e2 true xs], .v false [.i .i64 n], .v false [.sh e2 ys]]) c1 p'.blk := fun hn => by
    rcases hI.blk hn with ⟨q1, q2⟩ | q
    ·rw [q2]; exact .inr (hOwn1 q1)
    ·exact .inl q
   have hKp : ∀ b, c1.K b -> ¬ (p'.nil = false /\ b = p'.blk) := by
    rintro b hk ⟨hn, rfl⟩
    rcases hnew hn with h | h
    ·have := hok.lt _ hk; omega
    ·exact hok.notK h hk
   refine ⟨c3, ⟨?_, ?_, ?_, ?_, ?_⟩, ⟨hI.os, hI.tape, hI.output, hI.size, fun b hb => hb, ?_, ?_, fun b hb => .inl hb⟩, ?_, ?_⟩
   ·intro m o ho
    obtain ⟨rfl, rfl⟩ := hO m o ho
    refine ⟨⟨ti, he, by rw [hP3, hI.sz, hps], hzsh⟩, ?_, fun _ => ⟨fun i j h => absurd h (noInn i j), fun i j i' j' h => absurd h (noInn i j)⟩⟩
    rw [hP3]
    refine ⟨by rw [hI.n, hat.n, hzl], fun hn => ?_, fun hn => ?_⟩
    ·obtain ⟨q1, q2, q3⟩ := hI.nil hn
     rw [hat.n] at q2
     exact ⟨List.eq_nil_of_length_eq_zero (by omega), q1⟩
    ·obtain ⟨vals', q1, q2, q3, q4, q5, q6, q7⟩ := hI.mem hn
     refine ⟨vals', q1, q2, q3, q4, fun k y j x hk hj => ?_⟩
     simp only [if_true]
     have hnl := hzp k y j x hk hj
     have hjl : j < ti.ks.length := by rw [<- hzsh y (List.mem_of_getElem? hk), List.length_map]; exact (List.getElem?_eq_some_iff.1 hj).1
     have fin : ∀ u : Value, Sc u x -> vals'[p'.off + k * p'.sz + j]? = some u -> ∃ u : Value, vals'[p'.off + k * p'.sz + j]? = some u /\ XC T w' (c3.G (nmA 500 0)) k j u x := fun u h1 h2 => ⟨u, h2, scal_xc (E := ofTab T) hnl h1⟩
     have pnil : ∀ (k : Nat) (y : List CV), xs[k]? = some y -> p.nil = false := fun k y h => by
      cases hq : p.nil with
      | false => rfl
      | true => have hx := (hat.nil hq).1; subst hx; cases h
     rw [hI.sz] at fin ⊢
     rcases hzg k y hk with ⟨r1, r2⟩ | ⟨r1, r2, r3⟩ | ⟨r1, r2⟩
     ·obtain ⟨u, hu, hsc⟩ := xrel k y j x (pnil k y r2) r2 hj
      have hb1 : k * p.sz + j < n * p.sz := by have := Nat.mul_le_mul_right p.sz (show k + 1 <= n from r1); rw [Nat.add_mul] at this; rw [hps] at this ⊢; omega
      refine fin u hsc ?_
      rw [Nat.add_assoc]; exact q5 _ u hb1 (by rw [<- Nat.add_assoc]; exact hu)
     ·obtain ⟨u, hu, hr⟩ := n3 (k - n) y j x r3 hj
      have hb1 : (k - n) * p.sz + j < ys.length * p.sz := by have := Nat.mul_le_mul_right p.sz (show k - n + 1 <= ys.length by omega); rw [Nat.add_mul] at this; rw [hps] at this ⊢; omega
      refine fin u (holds_scal (E := ofTab T) hr hnl) ?_
      have := q6 _ hb1
      rw [hps] at this ⊢
      rw [hu, <- Nat.add_assoc, Nat.sub_mul] at this
      have hmn : n * ti.ks.length <= k * ti.ks.length := Nat.mul_le_mul_right _ r1
      rw [<- this]; congr 1; omega
     ·obtain ⟨u, hu, hsc⟩ := xrel (k - ys.length) y j x (pnil _ y r2) r2 hj
      have hkx : k - ys.length < xs.length := (List.getElem?_eq_some_iff.1 r2).1
      have hb1 : (k - (n + ys.length)) * p.sz + j < (p.n - n) * p.sz := by have := Nat.mul_le_mul_right p.sz (show k - (n + ys.length) + 1 <= p.n - n by rw [hat.n]; omega); rw [Nat.add_mul] at this; rw [hps] at this ⊢; omega
      refine fin u hsc ?_
      have := q7 _ u hb1
      rw [hps] at this hu ⊢
      have m1 : (n + ys.length) * ti.ks.length <= k * ti.ks.length := Nat.mul_le_mul_right _ r1
      have e1 : (k - (n + ys.length)) * ti.ks.length = k * ti.ks.length - (n + ys.length) * ti.ks.length := Nat.sub_mul _ _ _
      have e2 : (k - ys.length) * ti.ks.length = k * ti.ks.length - ys.length * ti.ks.length := Nat.sub_mul _ _ _
      have e3 : (n + ys.length) * ti.ks.length = n * ti.ks.length + ys.length * ti.ks.length := Nat.add_mul _ _ _
      rw [e1] at this
      rw [e2] at hu
      have := this (by rw [<- hu]; congr 2; omega)
      rw [<- this]; congr 1; omega
   ·intro m o m' o' b h1 h2 _ _
    obtain ⟨rfl, _⟩ := hO m o h1
    obtain ⟨rfl, _⟩ := hO m' o' h2
    rfl
   ·intro m o b h1 h2 h3
    obtain ⟨rfl, rfl⟩ := hO m o h1
    exact hKp b h3 (hfoot b h2)
   ·intro b hb
    exact Nat.lt_of_lt_of_le (hok.lt b hb) hI.size
   ·intro m bs h1
    obtain ⟨_, h2⟩ := hO m _ h1
    cases h2
   ·intro b hb hnb
    refine hI.old b hb (fun hn he => ?_)
    subst he
    rcases hnew hn with h | h
    ·omega
    ·exact hnb h
   ·rintro b ⟨m, o, h1, h2⟩
    obtain ⟨rfl, rfl⟩ := hO m o h1
    obtain ⟨q1, rfl⟩ := hfoot b h2
    rcases hnew q1 with h | h
    ·exact .inr (by omega)
    ·exact .inl h
   ·intro m hm
    have : m ≠ nmA 500 0 := by
     rintro rfl
     apply hm
     rfl
    exact ⟨if_neg this, if_neg this⟩
   ·show VOk T w' c3 false [.own (nmA 500 0)] (hdr p')
    show hdr p' = hdr (c3.P (nmA 500 0))
    rw [hP3]
 ·cases h
end
end Go.FG.Ins

