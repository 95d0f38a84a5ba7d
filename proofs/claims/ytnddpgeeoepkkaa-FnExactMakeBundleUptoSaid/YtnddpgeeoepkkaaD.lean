/- A part of the proof: texts S8D1, S8D2, S8D3, S8W0, S8D4, S8D5, S8D6, S8D7r, S8D7, S8D8, S8D9: see the last part's opening words. -/
import Derived.Test.YtnddpgeeoepkkaaV
import Derived.WalkKit
import Derived.Sort.Row
import Derived.BigGuard
import Derived.BigCall
import Derived.CellFam
import Derived.Deep.Draws
import Derived.Deep.QuietTactic
import Derived.BigQuiet
import Derived.StillTailTactics
import Derived.Test.YtnddpgeeoepkkaaRows
import Derived.JoinedCond
import Derived.OpenShut
import Derived.RangeFuncNested
import Derived.RangeFuncBound
import Derived.RangeFuncCalls
import Derived.RangeFuncLeaves
import Derived.Shelf.Abstract
import Derived.Shelf.RegionOpen
import Derived.OwnWalkIn
import Derived.TacticsInMore
import Derived.LoopNIn
import Derived.LoopIn
import Derived.Sort.QuietIn
set_option linter.unusedVariables false
set_option linter.unusedSimpArgs false
set_option linter.unnecessarySimpa false
namespace Go.Proofs.Ytnddpgeeoepkkaa
open Go Go.E Go.Proofs Go.RowKit
def rotSet : List Nat := [2, 6, 7, 11, 13, 17, 18, 19, 22, 25]
theorem rot_bits {n : Nat} (h : n ∈ rotSet) : bits BinOp.and IntKind.u64 (IntKind.u64.wrap (-(n : Int))) 31 = ((32 - n : Nat) : Int) := by
  simp only [rotSet, List.mem_cons, List.not_mem_nil, or_false] at h
  rcases h with rfl | rfl | rfl | rfl | rfl | rfl | rfl | rfl | rfl | rfl <;> rfl
set_option maxRecDepth 100000 in
theorem rot_walk (x n : Nat) (h : n ∈ rotSet) (hx : x < 4294967296) (w : World) : Calls Try.prog 85 #[.int .u32 x, .int .i64 (-(n : Int))] w fun e w' => e = .returned (.int .u32 (rotN x n : Nat)) ∧ w' = w := by
  have hb := rot_bits h
  have hn : 1 ≤ n ∧ n ≤ 31 := by
    simp only [rotSet, List.mem_cons, List.not_mem_nil, or_false] at h
    omega
  have h0 : (0 : Int) ≤ ((32 - n : Nat) : Int) := by omega
  have h1 : IntKind.u64.wrap (32 - ((32 - n : Nat) : Int)) = (n : Int) := by
    rw [wrap_u64 (by omega) (by omega)]; omega
  generalize hc : ((32 - n : Nat) : Int) = c at *
  have h2 : (0 : Int) ≤ (n : Int) := by omega
  generalize hd : (n : Int) = d at *
  go_enter Try.func85, Try.ntmps85
  go_wp2
  go_ret
  refine ⟨?_, rfl⟩
  have hxn : x / 2 ^ n < 4294967296 := Nat.lt_of_le_of_lt (Nat.div_le_self _ _) hx
  have e1 : (x : Int) * 2 ^ c.toNat % 4294967296 = ((x * 2 ^ (32 - n) % 4294967296 : Nat) : Int) := by
    rw [← hc]; simp
  have e2 : (x : Int) / 2 ^ d.toNat = ((x / 2 ^ n : Nat) : Int) := by
    rw [← hd]; simp
  rw [e1, e2, u32_or_nat _ _ (Nat.mod_lt _ (by omega)) hxn]
  refine congrArg (fun z : Nat => Ending.returned (Value.int .u32 (z : Int))) ?_
  unfold rotN M32
  have e3 : x / 2 ^ n = x / 2 ^ n % 2 ^ 32 := (Nat.mod_eq_of_lt hxn).symm
  show x * 2 ^ (32 - n) % 2 ^ 32 ||| x / 2 ^ n = (x / 2 ^ n ||| x * 2 ^ (32 - n)) % 2 ^ 32
  rw [Nat.or_mod_two_pow, ← e3, Nat.or_comm]
theorem rot_call (x : Nat) (z : Int) (h : (-z).toNat ∈ rotSet ∧ z ≤ 0) (hx : x < 4294967296) (w : World) : Calls Try.prog 85 #[.int .u32 x, .int .i64 z] w fun e w' => e = .returned (.int .u32 (rotN x (-z).toNat : Nat)) ∧ w' = w := by
  have e : z = -(((-z).toNat : Nat) : Int) := by omega
  have := rot_walk x (-z).toNat h.1 hx w
  rw [← e] at this
  exact this
end Go.Proofs.Ytnddpgeeoepkkaa

namespace Go.Proofs.Ytnddpgeeoepkkaa
open Go Go.E Go.Proofs Go.RowKit Go.Sort
def e32 (x : Nat) : Value := .int .u32 (x : Int)
def intOf : Value → Int | .int _ q => q | _ => 0
/-- a world with a block of words behind it, some draws on -/
def wAr (w : World) (d : List Nat) (t q : Nat) : World := (w.alloc (.cells (d.map e32).toArray t)).drewN q
section
variable {w : World} {d : List Nat} {t q b o i x m : Nat}
theorem wAr_old (hb : b < w.heap.size) : (wAr w d t q).cell? ⟨b, o, none⟩ = w.cell? ⟨b, o, none⟩ := by
  unfold wAr
  rw [World.cell?_drewN]
  exact World.cell?_alloc_past _ _ _ hb
theorem wAr_blk : (wAr w d t q).heap[w.heap.size]? = some (.cells (d.map e32).toArray t (0, 0)) := by
  show (w.heap.push _)[w.heap.size]? = _
  simp
theorem wAr_get (h : i < d.length) : (wAr w d t q).cell? ⟨w.heap.size, i, none⟩ = some (.int .u32 ((d.getD i 0 : Nat) : Int)) := by
  unfold World.cell?
  simp only [wAr_blk]
  simp [h, List.getD, e32]
theorem wAr_fz : (wAr w d t q).frozen? ⟨w.heap.size, i, none⟩ = false := by
  unfold World.frozen?
  simp only [wAr_blk]
  simp
theorem wAr_set : (wAr w d t q).setCell ⟨w.heap.size, i, none⟩ (.int .u32 (x : Int)) = wAr w (d.set i x) t q := by
  unfold World.setCell
  show ({ heap := (w.heap.push _).modify w.heap.size _, tape := _, drawn := _, os := _, output := _ } : World) = { heap := w.heap.push _, tape := _, drawn := _, os := _, output := _ }
  congr 1
  apply Array.ext_getElem?
  intro j
  rw [Array.getElem?_modify]
  by_cases hj : w.heap.size = j
  · subst hj
    simp [List.map_set, e32]
  · rw [if_neg hj]
    by_cases hl : j < w.heap.size
    · rw [Array.getElem?_push_lt hl, Array.getElem?_push_lt hl]
    · rw [Array.getElem?_eq_none (by simp; omega), Array.getElem?_eq_none (by simp; omega)]
theorem wAr_draw : (wAr w d t q).drewN m = wAr w d t (q + m) := World.drewN_drewN _ _ _
theorem wAr_start : wAr w d t 0 = w.alloc (.cells (d.map e32).toArray t) := rfl
theorem wAr_size : (wAr w d t q).heap.size = w.heap.size + 1 := by
  show (w.heap.push _).size = _
  simp
end
theorem be32_ok {a b c d : Nat} (ha : a < 256) (hb : b < 256) (hc : c < 256) (hd : d < 256) :
    bits BinOp.or IntKind.u32 (bits BinOp.or IntKind.u32 (bits BinOp.or IntKind.u32 ((a : Int) % 4294967296 * 16777216 % 4294967296) ((b : Int) % 4294967296 * 65536 % 4294967296)) ((c : Int) % 4294967296 * 256 % 4294967296)) ((d : Int) % 4294967296) = ((beW a b c d : Nat) : Int) := by
  have e1 : (a : Int) % 4294967296 * 16777216 % 4294967296 = ((a * 2 ^ 24 : Nat) : Int) := by omega
  have e2 : (b : Int) % 4294967296 * 65536 % 4294967296 = ((b * 2 ^ 16 : Nat) : Int) := by omega
  have e3 : (c : Int) % 4294967296 * 256 % 4294967296 = ((c * 2 ^ 8 : Nat) : Int) := by omega
  have e4 : (d : Int) % 4294967296 = (d : Int) := by omega
  have p1 : a * 2 ^ 24 ||| b * 2 ^ 16 < 4294967296 := Nat.or_lt_two_pow (n := 32) (by omega) (by omega)
  have p2 : (a * 2 ^ 24 ||| b * 2 ^ 16) ||| c * 2 ^ 8 < 4294967296 := Nat.or_lt_two_pow (n := 32) p1 (by omega)
  rw [e1, e2, e3, e4, u32_or_nat _ _ (by omega) (by omega), u32_or_nat _ _ p1 (by omega), u32_or_nat _ _ p2 (by omega)]
  rfl
/-- words so far, and zeros -/
def padW (l : List Nat) : List Nat := l ++ List.replicate (64 - l.length) 0
theorem padW_len {l : List Nat} (h : l.length ≤ 64) : (padW l).length = 64 := by simp [padW]; omega
theorem padW_get {l : List Nat} {i : Nat} (h : i < l.length) : (padW l).getD i 0 = l.getD i 0 := by
  simp [padW, List.getD, List.getElem?_append_left h]
theorem padW_set {l : List Nat} {x : Nat} (h : l.length < 64) : (padW l).set l.length x = padW (l ++ [x]) := by
  unfold padW
  rw [List.set_append_right _ _ (Nat.le_refl _), Nat.sub_self, List.append_assoc]
  congr 1
  obtain ⟨k, hk⟩ : ∃ k, 64 - l.length = k + 1 := ⟨63 - l.length, by omega⟩
  have hk2 : 64 - (l ++ [x]).length = k := by simp; omega
  rw [hk, hk2]
  rfl
set_option maxRecDepth 1000000 in
theorem words_walk (b o cap : Nat) (blk : List Nat) (hB : Bytes blk) (w : World) (hc : ∀ t, t < 64 → w.cell? ⟨b, o + t, none⟩ = some (.int .u8 ((blk.getD t 0 : Nat) : Int))) (hbl : b < w.heap.size) : Calls Try.prog 84 #[.slice (some ⟨b, o, none⟩) 64 cap] w fun e w' => e = .returned (.pointer (some ⟨w.heap.size, 0, none⟩)) ∧ ∃ q, w' = wAr w (words blk) 110 q := by
  go_enter Try.func84, Try.ntmps84
  go_wp2
  go_loopw [10] (fun vi wr => ∃ (i q : Nat), vi = .int .i64 i ∧ i ≤ 16 ∧ wr = wAr w (padW ((List.range i).map (wAt blk))) 110 q) (fun vi _ => 16 - (intOf vi).toNat)
  case atStart =>
    exact ⟨0, 0, rfl, by omega, rfl⟩
  case round =>
    obtain ⟨i, q, rfl, hi, hwr⟩ := hrel
    obtain ⟨d, hd⟩ : ∃ d, d = (List.range i).map (wAt blk) := ⟨_, rfl⟩
    rw [← hd] at hwr
    have hdl : d.length = i := by rw [hd]; simp
    have HD : Hid (d = (List.range i).map (wAt blk)) := hd
    clear hd
    have hcr : ∀ t, t < 64 → wr.cell? ⟨b, o + t, none⟩ = some (.int .u8 ((blk.getD t 0 : Nat) : Int)) := fun t ht => by rw [hwr, wAr_old hbl]; exact hc t ht
    have hDR : Hid (wr.drew = wAr w (padW d) 110 (q + 1)) := by exact (by rw [hwr, World.drew_is_drewN, wAr_draw] : wr.drew = wAr w (padW d) 110 (q + 1))
    have HWR : Hid (wr = wAr w (padW d) 110 q) := hwr
    have HDL : Hid (d.length = i) := hdl
    clear hwr hdl
    go_wp2
    · have hi16 : i < 16 := by omega
      have f0 : IntKind.i64.wrap (4 * (i : Int)) = ((4 * i : Nat) : Int) := by rw [wrap_i64 (by omega) (by omega)]; omega
      have f1 : IntKind.i64.wrap (((4 * i : Nat) : Int) + 1) = ((4 * i + 1 : Nat) : Int) := by rw [wrap_i64 (by omega) (by omega)]; omega
      have f2 : IntKind.i64.wrap (((4 * i : Nat) : Int) + 2) = ((4 * i + 2 : Nat) : Int) := by rw [wrap_i64 (by omega) (by omega)]; omega
      have f3 : IntKind.i64.wrap (((4 * i : Nat) : Int) + 3) = ((4 * i + 3 : Nat) : Int) := by rw [wrap_i64 (by omega) (by omega)]; omega
      have c0 := hcr (4 * i) (by omega)
      have c1 := hcr (4 * i + 1) (by omega)
      have c2 := hcr (4 * i + 2) (by omega)
      have c3 := hcr (4 * i + 3) (by omega)
      have hv := be32_ok (hB (4 * i)) (hB (4 * i + 1)) (hB (4 * i + 2)) (hB (4 * i + 3))
      have HV : Hid (beW (blk.getD (4 * i) 0) (blk.getD (4 * i + 1) 0) (blk.getD (4 * i + 2) 0) (blk.getD (4 * i + 3) 0) = wAt blk i) := (rfl : beW (blk.getD (4 * i) 0) (blk.getD (4 * i + 1) 0) (blk.getD (4 * i + 2) 0) (blk.getD (4 * i + 3) 0) = wAt blk i)
      generalize hv0 : blk.getD (4 * i) 0 = v0 at c0 hv HV
      generalize hv1 : blk.getD (4 * i + 1) 0 = v1 at c1 hv HV
      generalize hv2 : blk.getD (4 * i + 2) 0 = v2 at c2 hv HV
      generalize hv3 : blk.getD (4 * i + 3) 0 = v3 at c3 hv HV
      generalize h1 : 4 * i + 1 = j1 at *
      generalize h2 : 4 * i + 2 = j2 at *
      generalize h3 : 4 * i + 3 = j3 at *
      generalize h0 : 4 * i = j0 at *
      have HV2 : Hid _ := hv
      clear hv hv0 hv1 hv2 hv3
      have b0 : 0 ≤ (j0 : Int) ∧ (j0 : Int) < 64 := by omega
      have b1 : 0 ≤ (j1 : Int) ∧ (j1 : Int) < 64 := by omega
      have b2 : 0 ≤ (j2 : Int) ∧ (j2 : Int) < 64 := by omega
      have b3 : 0 ≤ (j3 : Int) ∧ (j3 : Int) < 64 := by omega
      clear hcr hc
      go_still_tail 34, (by kernel_rfl)
      change wpList _ _ _ _ _ wr.drew
      have s1 : wr.drew.cell? ⟨w.heap.size, i, none⟩ = some (.int .u32 (((padW d).getD i 0 : Nat) : Int)) := by rw [hDR.out]; exact wAr_get (by rw [padW_len (by rw [HDL.out]; omega)]; omega)
      have s2 : wr.drew.frozen? ⟨w.heap.size, i, none⟩ = false := by rw [hDR.out]; exact wAr_fz
      have b4 : 0 ≤ (i : Int) ∧ (i : Int) < 64 := by omega
      generalize wr.drew = w2 at hDR s1 s2 ⊢
      go_wp2
      go_roundw
      case rel =>
        refine ⟨i + 1, q + 1, by simp, by omega, ?_⟩
        rw [HV2.out, HV.out, hDR.out, wAr_set, ← HDL.out, padW_set (by rw [HDL.out]; omega), HDL.out, HD.out, List.range_succ, List.map_append]
        rfl
      case measure => simp [intOf]; omega
    · have hi16 : i = 16 := by omega
      subst hi16
      clear hcr hDR HDL
      have HW0 : Hid (wExt 48 d = words blk) := by rw [HD.out, ← w16_eq]; exact (rfl : wExt 48 (w16 blk) = words blk)
      have h32 : W32 d := by rw [HD.out, ← w16_eq]; exact w16_W32 hB
      have hdl : d.length = 16 := by rw [HD.out]; simp
      clear HD
      obtain ⟨fin, hfin⟩ : ∃ fin, fin = words blk := ⟨_, rfl⟩
      have HF : Hid (fin = words blk) := hfin
      rw [← hfin] at HW0
      clear hfin
      go_loopw [5] (fun vi wr => ∃ (i q : Nat) (l : List Nat), vi = .int .i64 i ∧ i ≤ 64 ∧ 16 ≤ i ∧ l.length = i ∧ W32 l ∧ wExt (64 - i) l = fin ∧ wr = wAr w (padW l) 110 q) (fun vi _ => 64 - (intOf vi).toNat)
      case atStart =>
        exact ⟨16, q, d, rfl, by omega, by omega, hdl, h32, HW0.out, HWR.out⟩
      case round =>
        clear HWR HW0 h32 hdl d q
        rename_i wr0 _
        obtain ⟨i, q, l, rfl, hi, hi2, hl, h32, hW, hwr⟩ := hrel
        have HW : Hid (wExt (64 - i) l = fin) := hW
        have HL : Hid (l.length = i) := hl
        have HWR : Hid (wr = wAr w (padW l) 110 q) := hwr
        have H32 : Hid (W32 l) := h32
        clear hW hl hwr h32
        go_wp2
        · have hi64 : i < 64 := by omega
          have g1 : IntKind.i64.wrap ((i : Int) - 15) = ((i - 15 : Nat) : Int) := by rw [wrap_i64 (by omega) (by omega)]; omega
          have g2 : IntKind.i64.wrap ((i : Int) - 2) = ((i - 2 : Nat) : Int) := by rw [wrap_i64 (by omega) (by omega)]; omega
          have g3 : IntKind.i64.wrap ((i : Int) - 16) = ((i - 16 : Nat) : Int) := by rw [wrap_i64 (by omega) (by omega)]; omega
          have g4 : IntKind.i64.wrap ((i : Int) - 7) = ((i - 7 : Nat) : Int) := by rw [wrap_i64 (by omega) (by omega)]; omega
          have cw : ∀ k, k < i → ∀ w1, Hid (w1 = wAr w (padW l) 110 q) → w1.cell? ⟨w.heap.size, k, none⟩ = some (.int .u32 ((l.getD k 0 : Nat) : Int)) := by
            intro k hk w1 h1
            rw [h1.out, wAr_get (by rw [padW_len (by rw [HL.out]; omega)]; omega), padW_get (by rw [HL.out]; exact hk)]
          have c1 := cw (i - 15) (by omega) wr HWR
          have c2 := cw (i - 2) (by omega) wr HWR
          have c3 := cw (i - 16) (by omega) wr HWR
          have c4 := cw (i - 7) (by omega) wr HWR
          have x1 := H32.out (i - 15)
          have x2 := H32.out (i - 2)
          have x3 := H32.out (i - 16)
          have x4 := H32.out (i - 7)
          obtain ⟨nx, hnx⟩ : ∃ nx, nx = (l.getD (i - 16) 0 + sg0 (l.getD (i - 15) 0) + l.getD (i - 7) 0 + sg1 (l.getD (i - 2) 0)) % M32 := ⟨_, rfl⟩
          have HNX : Hid (nx = (l.getD (l.length - 16) 0 + sg0 (l.getD (l.length - 15) 0) + l.getD (l.length - 7) 0 + sg1 (l.getD (l.length - 2) 0)) % M32) := by
            rw [HL.out]; exact hnx
          have b1 : 0 ≤ ((i - 15 : Nat) : Int) ∧ ((i - 15 : Nat) : Int) < 64 := by omega
          have b2 : 0 ≤ ((i - 2 : Nat) : Int) ∧ ((i - 2 : Nat) : Int) < 64 := by omega
          have b3 : 0 ≤ ((i - 16 : Nat) : Int) ∧ ((i - 16 : Nat) : Int) < 64 := by omega
          have b4 : 0 ≤ ((i - 7 : Nat) : Int) ∧ ((i - 7 : Nat) : Int) < 64 := by omega
          generalize i - 15 = i1 at *
          generalize i - 2 = i2 at *
          generalize i - 16 = i3 at *
          generalize i - 7 = i4 at *
          generalize l.getD i1 0 = v1 at *
          generalize l.getD i2 0 = v2 at *
          generalize l.getD i3 0 = v3 at *
          generalize l.getD i4 0 = v4 at *
          have HNX2 : Hid _ := hnx
          clear hnx cw
          go_quiet (fail)
          have r1 : rotN v1 7 < 4294967296 := rotN_lt _ _
          have r2 : rotN v1 18 < 4294967296 := rotN_lt _ _
          have r3 : rotN v2 17 < 4294967296 := rotN_lt _ _
          have r4 : rotN v2 19 < 4294967296 := rotN_lt _ _
          go_wp2_with (go_at_call 85; refine (rot_call _ _ (by decide) (by assumption) _).mono ?_; rintro _ _ ⟨rfl, rfl⟩)
          have hs0 : bits BinOp.xor IntKind.u32 (bits BinOp.xor IntKind.u32 ((rotN v1 7 : Nat) : Int) ((rotN v1 18 : Nat) : Int)) ((v1 : Int) / 8) = ((sg0 v1 : Nat) : Int) := by
            rw [u32_xor_nat _ _ r1 r2, show ((v1 : Int) / 8) = ((v1 / 2 ^ 3 : Nat) : Int) by omega, u32_xor_nat _ _ (xor_lt r1 r2) (by omega)]
            rfl
          have hs1 : bits BinOp.xor IntKind.u32 (bits BinOp.xor IntKind.u32 ((rotN v2 17 : Nat) : Int) ((rotN v2 19 : Nat) : Int)) ((v2 : Int) / 1024) = ((sg1 v2 : Nat) : Int) := by
            rw [u32_xor_nat _ _ r3 r4, show ((v2 : Int) / 1024) = ((v2 / 2 ^ 10 : Nat) : Int) by omega, u32_xor_nat _ _ (xor_lt r3 r4) (by omega)]
            rfl
          rw [hs0, hs1]
          clear hs0 hs1
          generalize sg0 v1 = t0 at *
          generalize sg1 v2 = t1 at *
          clear r1 r2 r3 r4
          have d1 : (wr.drewN nq).cell? ⟨w.heap.size, i3, none⟩ = some (.int .u32 (v3 : Int)) := c3
          have d2 : (wr.drewN nq).cell? ⟨w.heap.size, i4, none⟩ = some (.int .u32 (v4 : Int)) := c4
          have hDR : Hid ((wr.drewN nq).drew = wAr w (padW l) 110 (q + (nq + 1))) := (by rw [HWR.out, World.drew_drewN, wAr_draw] : (wr.drewN nq).drew = wAr w (padW l) 110 (q + (nq + 1)))
          generalize wr.drewN nq = wq at *
          go_still_tail 14, (by kernel_rfl)
          change wpList _ _ _ _ _ wq.drew
          have s1 : wq.drew.cell? ⟨w.heap.size, i, none⟩ = some (.int .u32 (((padW l).getD i 0 : Nat) : Int)) := by rw [hDR.out]; exact wAr_get (by rw [padW_len (by rw [HL.out]; omega)]; omega)
          have s2 : wq.drew.frozen? ⟨w.heap.size, i, none⟩ = false := by rw [hDR.out]; exact wAr_fz
          have b5 : 0 ≤ (i : Int) ∧ (i : Int) < 64 := by omega
          generalize wq.drew = w2 at hDR s1 s2 ⊢
          go_wp2
          refine ⟨?_, ?measure⟩
          iterate 48 apply Exists.intro
          refine ⟨?rel, rfl⟩
          case rel =>
            have hnx : nx = (v3 + t0 + v4 + t1) % M32 := HNX2.out
            refine ⟨i + 1, q + (nq + 1), l ++ [nx], by simp, by omega, by omega, by simp [HL.out], W32_snoc H32.out (by rw [hnx]; exact Nat.mod_lt _ (by unfold M32; omega)), ?_, ?_⟩
            · have h1 := HW.out
              obtain ⟨k, hk⟩ : ∃ k, 64 - i = k + 1 := ⟨63 - i, by omega⟩
              rw [hk, wExt, ← HNX.out] at h1
              rw [show 64 - (i + 1) = k by omega]
              exact h1
            · have h1 : wAr w ((padW l).set i nx) 110 (q + (nq + 1)) = wAr w (padW (l ++ [nx])) 110 (q + (nq + 1)) := by
                rw [← HL.out, padW_set (by rw [HL.out]; omega)]
              rw [← h1, ← wAr_set, ← hDR.out]
              congr 2
              unfold M32 at hnx
              omega
          case measure => simp [intOf]; omega
        · go_ret
          have hi64 : i = 64 := by omega
          subst hi64
          refine ⟨rfl, q, ?_⟩
          have e1 : l = words blk := HW.out.trans HF.out
          rw [HWR.out, ← e1]
          unfold padW
          rw [HL.out]
          simp
end Go.Proofs.Ytnddpgeeoepkkaa

namespace Go.Proofs.Ytnddpgeeoepkkaa
open Go Go.E Go.Proofs Go.RowKit Go.Sort
theorem xor_max {e : Nat} (he : e < 4294967296) : 4294967295 ^^^ e = 4294967295 - e := by
  apply Nat.eq_of_testBit_eq
  intro i
  rw [Nat.testBit_xor, show (4294967295 : Nat) = 2 ^ 32 - 1 from rfl, Nat.testBit_two_pow_sub_one, show 2 ^ 32 - 1 - e = 2 ^ 32 - (e + 1) by omega, Nat.testBit_two_pow_sub_succ he]
  by_cases h : i < 32
  · simp [h]
  · have : e.testBit i = false := Nat.testBit_lt_two_pow (Nat.lt_of_lt_of_le (show e < 2 ^ 32 from he) (Nat.pow_le_pow_right (Nat.zero_lt_succ 1) (Nat.le_of_not_lt h)))
    simp [h, this]
theorem bits_xor3 {a b c : Nat} (ha : a < 4294967296) (hb : b < 4294967296) (hc : c < 4294967296) : bits BinOp.xor IntKind.u32 (bits BinOp.xor IntKind.u32 (a : Int) (b : Int)) (c : Int) = ((a ^^^ b ^^^ c : Nat) : Int) := by
  rw [u32_xor_nat _ _ ha hb, u32_xor_nat _ _ (xor_lt ha hb) hc]
theorem bits_ch {e f g : Nat} (he : e < 4294967296) (hf : f < 4294967296) (hg : g < 4294967296) :
    bits BinOp.xor IntKind.u32 (bits BinOp.and IntKind.u32 (e : Int) (f : Int)) (bits BinOp.and IntKind.u32 (bits BinOp.xor IntKind.u32 IntKind.u32.max (e : Int)) (g : Int)) = (((e &&& f) ^^^ ((M32 - 1 - e) &&& g) : Nat) : Int) := by
  have hm : IntKind.u32.max = ((4294967295 : Nat) : Int) := rfl
  have h1 : 4294967295 - e < 4294967296 := by omega
  rw [hm, u32_xor_nat _ _ (by omega) he, xor_max he, u32_and_nat _ _ he hf, u32_and_nat _ _ h1 hg, u32_xor_nat _ _ (and_lt he) (and_lt h1)]
  rfl
theorem bits_maj {a b c : Nat} (ha : a < 4294967296) (hb : b < 4294967296) (hc : c < 4294967296) :
    bits BinOp.xor IntKind.u32 (bits BinOp.xor IntKind.u32 (bits BinOp.and IntKind.u32 (a : Int) (b : Int)) (bits BinOp.and IntKind.u32 (a : Int) (c : Int))) (bits BinOp.and IntKind.u32 (b : Int) (c : Int)) = (((a &&& b) ^^^ (a &&& c) ^^^ (b &&& c) : Nat) : Int) := by
  rw [u32_and_nat _ _ ha hb, u32_and_nat _ _ ha hc, u32_and_nat _ _ hb hc, u32_xor_nat _ _ (and_lt ha) (and_lt ha), u32_xor_nat _ _ (xor_lt (and_lt ha) (and_lt ha)) (and_lt hb)]
theorem wAr_set8 {w : World} {a0 a1 a2 a3 a4 a5 a6 a7 b0 b1 b2 b3 b4 b5 b6 b7 t q : Nat} :
    ((((((((wAr w [a0, a1, a2, a3, a4, a5, a6, a7] t q).setCell ⟨w.heap.size, 0, none⟩ (.int .u32 (b0 : Int))).setCell ⟨w.heap.size, 1, none⟩ (.int .u32 (b1 : Int))).setCell ⟨w.heap.size, 2, none⟩ (.int .u32 (b2 : Int))).setCell ⟨w.heap.size, 3, none⟩ (.int .u32 (b3 : Int))).setCell
      ⟨w.heap.size, 4, none⟩ (.int .u32 (b4 : Int))).setCell ⟨w.heap.size, 5, none⟩ (.int .u32 (b5 : Int))).setCell ⟨w.heap.size, 6, none⟩ (.int .u32 (b6 : Int))).setCell ⟨w.heap.size, 7, none⟩ (.int .u32 (b7 : Int)) = wAr w [b0, b1, b2, b3, b4, b5, b6, b7] t q := by
  rw [wAr_set, wAr_set, wAr_set, wAr_set, wAr_set, wAr_set, wAr_set, wAr_set]
  rfl
theorem drop_get {l : List Nat} {i : Nat} (h : i < l.length) : l.drop i = l.getD i 0 :: l.drop (i + 1) := by
  rw [List.drop_eq_getElem_cons h]
  simp [List.getD, h]
theorem W32_8 {a b c d e f g h : Nat} (ha : a < 4294967296) (hb : b < 4294967296) (hc : c < 4294967296) (hd : d < 4294967296) (he : e < 4294967296) (hf : f < 4294967296) (hg : g < 4294967296) (hh : h < 4294967296) : W32 [a, b, c, d, e, f, g, h] := by
  intro i
  match i with
  | 0 => exact ha
  | 1 => exact hb
  | 2 => exact hc
  | 3 => exact hd
  | 4 => exact he
  | 5 => exact hf
  | 6 => exact hg
  | 7 => exact hh
  | i + 8 => simp
theorem wAr_fz_old {w : World} {d : List Nat} {t q b o : Nat} (hb : b < w.heap.size) : (wAr w d t q).frozen? ⟨b, o, none⟩ = w.frozen? ⟨b, o, none⟩ := by
  have h : (wAr w d t q).heap[b]? = w.heap[b]? := by
    show (w.heap.push _)[b]? = _
    rw [Array.getElem?_push_lt hb]
    simp [hb]
  unfold World.frozen?
  simp only [h]
def mixR (vv hh d : List Nat) (i : Nat) : Prop := ∀ j, d.getD j 0 = if j < i then (vv.getD j 0 + hh.getD j 0) % M32 else hh.getD j 0
def putN (w : World) (b : Nat) (d : List Nat) : World := putRow e32 w b 0 d.toArray
theorem toArray_get (d : List Nat) (i : Nat) : d.toArray[i]! = d.getD i 0 := by
  simp [List.getD]
theorem putN_get {w : World} {b i : Nat} {d0 d : List Nat} (h : Holds e32 w b 0 d0.toArray) (hs : d.length = d0.length) (hi : i < d.length) : (putN w b d).cell? ⟨b, i, none⟩ = some (.int .u32 ((d.getD i 0 : Nat) : Int)) := by
  have := cell?_putRow e32 w b 0 d0.toArray d.toArray h (by simpa using hs) i (by simpa using hi)
  rw [Nat.zero_add, toArray_get] at this
  exact this
theorem putN_other {w : World} {b : Nat} {d : List Nat} {a : Addr} (h : a.block ≠ b) : (putN w b d).cell? a = w.cell? a := cell?_putRow_other e32 w b 0 d.toArray a (.inl h)
theorem putN_set {w : World} {b i x : Nat} {d : List Nat} (hi : i < d.length) : (putN w b d).setCell ⟨b, i, none⟩ (.int .u32 (x : Int)) = putN w b (d.set i x) := by
  have := putRow_set e32 w b 0 d.toArray i x (by simpa using hi)
  rw [Nat.zero_add] at this
  unfold putN
  rw [show (Value.int .u32 (x : Int)) = e32 x from rfl, this]
  simp
theorem wExt_len : ∀ (n : Nat) (l : List Nat), (wExt n l).length = l.length + n
  | 0, l => by rw [wExt]; rfl
  | n + 1, l => by rw [wExt, wExt_len n]; simp; omega
theorem wExt_W32 : ∀ (n : Nat) (l : List Nat), W32 l → W32 (wExt n l)
  | 0, l, h => by rw [wExt]; exact h
  | n + 1, l, h => by rw [wExt]; exact wExt_W32 n _ (W32_snoc h (Nat.mod_lt _ (by unfold M32; omega)))
theorem words_len (b : List Nat) : (words b).length = 64 := by
  have h1 := wExt_len 48 (w16 b)
  have h2 := w16_len b
  generalize w16 b = l at h1 h2
  have e : words b = wExt 48 (w16 b) := by unfold words; rfl
  rw [e]
  have h3 := wExt_len 48 (w16 b)
  have h4 := w16_len b
  generalize w16 b = l2 at h3 h4
  generalize wExt 48 l2 = l3 at h3
  omega
theorem words_W32 {b : List Nat} (h : Bytes b) : W32 (words b) := by
  have e : words b = wExt 48 (w16 b) := by unfold words; rfl
  rw [e]
  have h1 := w16_W32 h
  generalize w16 b = l2 at h1
  exact wExt_W32 48 l2 h1
set_option maxHeartbeats 8000000 in
set_option maxRecDepth 1000000 in
theorem block_walk (hb b o cap kb : Nat) (h0 h1 h2 h3 h4 h5 h6 h7 : Nat) (H0 : h0 < 4294967296) (H1 : h1 < 4294967296) (H2 : h2 < 4294967296) (H3 : h3 < 4294967296) (H4 : h4 < 4294967296) (H5 : h5 < 4294967296) (H6 : h6 < 4294967296) (H7 : h7 < 4294967296)
    (blk ks : List Nat) (hB : Bytes blk) (hkl : ks.length = 64) (hk32 : W32 ks) (w : World)
    (hc : ∀ t, t < 64 → w.cell? ⟨b, o + t, none⟩ = some (.int .u8 ((blk.getD t 0 : Nat) : Int))) (hbl : b < w.heap.size)
    (hkc : ∀ t, t < 64 → w.cell? ⟨kb, 0 + t, none⟩ = some (.int .u32 ((ks.getD t 0 : Nat) : Int))) (hkb : kb < w.heap.size)
    (c0 : w.cell? ⟨hb, 0, none⟩ = some (.int .u32 (h0 : Int))) (c1 : w.cell? ⟨hb, 1, none⟩ = some (.int .u32 (h1 : Int))) (c2 : w.cell? ⟨hb, 2, none⟩ = some (.int .u32 (h2 : Int))) (c3 : w.cell? ⟨hb, 3, none⟩ = some (.int .u32 (h3 : Int)))
    (c4 : w.cell? ⟨hb, 4, none⟩ = some (.int .u32 (h4 : Int))) (c5 : w.cell? ⟨hb, 5, none⟩ = some (.int .u32 (h5 : Int))) (c6 : w.cell? ⟨hb, 6, none⟩ = some (.int .u32 (h6 : Int))) (c7 : w.cell? ⟨hb, 7, none⟩ = some (.int .u32 (h7 : Int)))
    (hfz : ∀ t, t < 8 → w.frozen? ⟨hb, 0 + t, none⟩ = false) (hhb : hb < w.heap.size) (hbk : b ≠ hb) (hkk : kb ≠ hb) :
    Calls Try.prog 75 #[.pointer (some ⟨hb, 0, none⟩), .slice (some ⟨b, o, none⟩) 64 cap, .pointer (some ⟨kb, 0, none⟩)] w fun e w' => e = .returned (.tuple #[]) ∧
      ∃ q1 q2 v, w' = putN (wAr (wAr w (words blk) 110 q1) v 98 q2) hb (blockN ks [h0, h1, h2, h3, h4, h5, h6, h7] blk) := by
  go_enter Try.func75, Try.ntmps75
  go_wp2_with (go_at_call 84; refine (words_walk b o cap blk hB _ hc hbl).mono ?_; rintro _ W1 ⟨rfl, q1, hW1⟩; have d0 := (hW1 ▸ wAr_old hhb : W1.cell? ⟨hb, 0, none⟩ = w.cell? ⟨hb, 0, none⟩).trans c0; have d1 := (hW1 ▸ wAr_old hhb : W1.cell? ⟨hb, 1, none⟩ = w.cell? ⟨hb, 1, none⟩).trans c1; have d2 := (hW1 ▸ wAr_old hhb : W1.cell? ⟨hb, 2, none⟩ = w.cell? ⟨hb, 2, none⟩).trans c2; have d3 := (hW1 ▸ wAr_old hhb : W1.cell? ⟨hb, 3, none⟩ = w.cell? ⟨hb, 3, none⟩).trans c3; have d4 := (hW1 ▸ wAr_old hhb : W1.cell? ⟨hb, 4, none⟩ = w.cell? ⟨hb, 4, none⟩).trans c4; have d5 := (hW1 ▸ wAr_old hhb : W1.cell? ⟨hb, 5, none⟩ = w.cell? ⟨hb, 5, none⟩).trans c5; have d6 := (hW1 ▸ wAr_old hhb : W1.cell? ⟨hb, 6, none⟩ = w.cell? ⟨hb, 6, none⟩).trans c6; have d7 := (hW1 ▸ wAr_old hhb : W1.cell? ⟨hb, 7, none⟩ = w.cell? ⟨hb, 7, none⟩).trans c7; have HW1 : Hid (W1 = wAr w (words blk) 110 q1) := hW1; clear hW1)
  obtain ⟨ws, hws⟩ : ∃ ws, ws = words blk := ⟨_, rfl⟩
  have HWS : Hid (ws = words blk) := hws
  rw [← hws] at HW1
  have hwl : ws.length = 64 := by rw [hws]; exact words_len blk
  have hw32 : W32 ws := by rw [hws]; exact words_W32 hB
  have hN1 : W1.heap.size = w.heap.size + 1 := by rw [HW1.out]; exact wAr_size
  have HN1 : Hid (W1.heap.size = w.heap.size + 1) := hN1
  have HC : Hid (∀ t, t < 64 → W1.cell? ⟨kb, t, none⟩ = some (.int .u32 ((ks.getD t 0 : Nat) : Int))) := (fun t ht => by
    have := hkc t ht
    rw [Nat.zero_add] at this
    rw [HW1.out, wAr_old hkb]; exact this : ∀ t, t < 64 → W1.cell? ⟨kb, t, none⟩ = some (.int .u32 ((ks.getD t 0 : Nat) : Int)))
  have HC2 : Hid (∀ t, t < 64 → W1.cell? ⟨w.heap.size, t, none⟩ = some (.int .u32 ((ws.getD t 0 : Nat) : Int))) := (fun t ht => by
    rw [HW1.out, wAr_get (by omega)] : ∀ t, t < 64 → W1.cell? ⟨w.heap.size, t, none⟩ = some (.int .u32 ((ws.getD t 0 : Nat) : Int)))
  have HKL : Hid (ks.length = 64) := hkl
  have HWL : Hid (ws.length = 64) := hwl
  have HK32 : Hid (W32 ks) := hk32
  have HW32 : Hid (W32 ws) := hw32
  clear hkl hwl hk32 hw32 hws hN1 hc hkc
  go_loopw [22] (fun vi wr => ∃ (i q v0 v1 v2 v3 v4 v5 v6 v7 : Nat), vi = .int .i64 i ∧ i ≤ 64 ∧ v0 < 4294967296 ∧ v1 < 4294967296 ∧ v2 < 4294967296 ∧ v3 < 4294967296 ∧ v4 < 4294967296 ∧ v5 < 4294967296 ∧ v6 < 4294967296 ∧ v7 < 4294967296 ∧
      turns (ks.drop i) (ws.drop i) [v0, v1, v2, v3, v4, v5, v6, v7] = turns ks ws [h0, h1, h2, h3, h4, h5, h6, h7] ∧ wr = wAr W1 [v0, v1, v2, v3, v4, v5, v6, v7] 98 q) (fun vi _ => 64 - (intOf vi).toNat)
  case atStart =>
    exact ⟨0, 0, h0, h1, h2, h3, h4, h5, h6, h7, rfl, by omega, H0, H1, H2, H3, H4, H5, H6, H7, rfl, rfl⟩
  case round =>
    clear d0 d1 d2 d3 d4 d5 d6 d7
    obtain ⟨i, q, v0, v1, v2, v3, v4, v5, v6, v7, rfl, hi, V0, V1, V2, V3, V4, V5, V6, V7, hT, hwr⟩ := hrel
    have HT : Hid (turns (ks.drop i) (ws.drop i) [v0, v1, v2, v3, v4, v5, v6, v7] = turns ks ws [h0, h1, h2, h3, h4, h5, h6, h7]) := hT
    have HWR : Hid (wr = wAr W1 [v0, v1, v2, v3, v4, v5, v6, v7] 98 q) := hwr
    clear hT hwr
    have e0 : wr.cell? ⟨W1.heap.size, 0, none⟩ = some (.int .u32 (v0 : Int)) := by rw [HWR.out, wAr_get (by simp)]; rfl
    have e1 : wr.cell? ⟨W1.heap.size, 1, none⟩ = some (.int .u32 (v1 : Int)) := by rw [HWR.out, wAr_get (by simp)]; rfl
    have e2 : wr.cell? ⟨W1.heap.size, 2, none⟩ = some (.int .u32 (v2 : Int)) := by rw [HWR.out, wAr_get (by simp)]; rfl
    have e3 : wr.cell? ⟨W1.heap.size, 3, none⟩ = some (.int .u32 (v3 : Int)) := by rw [HWR.out, wAr_get (by simp)]; rfl
    have e4 : wr.cell? ⟨W1.heap.size, 4, none⟩ = some (.int .u32 (v4 : Int)) := by rw [HWR.out, wAr_get (by simp)]; rfl
    have e5 : wr.cell? ⟨W1.heap.size, 5, none⟩ = some (.int .u32 (v5 : Int)) := by rw [HWR.out, wAr_get (by simp)]; rfl
    have e6 : wr.cell? ⟨W1.heap.size, 6, none⟩ = some (.int .u32 (v6 : Int)) := by rw [HWR.out, wAr_get (by simp)]; rfl
    have e7 : wr.cell? ⟨W1.heap.size, 7, none⟩ = some (.int .u32 (v7 : Int)) := by rw [HWR.out, wAr_get (by simp)]; rfl
    go_wp2
    · have hi64 : i < 64 := by omega
      have k1 : wr.cell? ⟨kb, i, none⟩ = some (.int .u32 ((ks.getD i 0 : Nat) : Int)) := by rw [HWR.out, wAr_old (by have := HN1.out; omega)]; exact HC.out i hi64
      have w1 : wr.cell? ⟨w.heap.size, i, none⟩ = some (.int .u32 ((ws.getD i 0 : Nat) : Int)) := by rw [HWR.out, wAr_old (by have := HN1.out; omega)]; exact HC2.out i hi64
      have K32 := HK32.out i
      have WW32 := HW32.out i
      have b1 : 0 ≤ (i : Int) ∧ (i : Int) < 64 := by omega
      obtain ⟨kv, hkv⟩ : ∃ kv, kv = ks.getD i 0 := ⟨_, rfl⟩
      obtain ⟨wv, hwv⟩ : ∃ wv, wv = ws.getD i 0 := ⟨_, rfl⟩
      rw [← hkv] at k1 K32
      rw [← hwv] at w1 WW32
      have HKV : Hid (kv = ks.getD i 0) := hkv
      have HWV : Hid (wv = ws.getD i 0) := hwv
      clear hkv hwv
      go_quiet (fail)
      go_wp2_with (go_at_call 85; refine (rot_call _ _ (by decide) (by assumption) _).mono ?_; rintro _ _ ⟨rfl, rfl⟩)
      obtain ⟨S1, hS1⟩ : ∃ S1, S1 = rotN v4 6 ^^^ rotN v4 11 ^^^ rotN v4 25 := ⟨_, rfl⟩
      obtain ⟨CH, hCH⟩ : ∃ CH, CH = (v4 &&& v5) ^^^ ((M32 - 1 - v4) &&& v6) := ⟨_, rfl⟩
      rw [bits_xor3 (rotN_lt _ _) (rotN_lt _ _) (rotN_lt _ _), bits_ch V4 V5 V6, ← hS1, ← hCH]
      have HS1 : Hid (S1 = rotN v4 6 ^^^ rotN v4 11 ^^^ rotN v4 25) := hS1
      have HCH : Hid (CH = (v4 &&& v5) ^^^ ((M32 - 1 - v4) &&& v6)) := hCH
      clear hS1 hCH
      obtain ⟨q0, hq0⟩ : ∃ q0, q0 = q + nq := ⟨_, rfl⟩
      have HWQ : Hid (wr.drewN nq = wAr W1 [v0, v1, v2, v3, v4, v5, v6, v7] 98 q0) := (by rw [HWR.out, wAr_draw, hq0] : wr.drewN nq = wAr W1 [v0, v1, v2, v3, v4, v5, v6, v7] 98 q0)
      clear hq0
      have m7 : (wr.drewN nq).cell? ⟨W1.heap.size, 7, none⟩ = some (.int .u32 (v7 : Int)) := e7
      have m1 : (wr.drewN nq).cell? ⟨W1.heap.size, 1, none⟩ = some (.int .u32 (v1 : Int)) := e1
      have m2 : (wr.drewN nq).cell? ⟨W1.heap.size, 2, none⟩ = some (.int .u32 (v2 : Int)) := e2
      have m3 : (wr.drewN nq).cell? ⟨W1.heap.size, 3, none⟩ = some (.int .u32 (v3 : Int)) := e3
      have m5 : (wr.drewN nq).cell? ⟨W1.heap.size, 5, none⟩ = some (.int .u32 (v5 : Int)) := e5
      have m6 : (wr.drewN nq).cell? ⟨W1.heap.size, 6, none⟩ = some (.int .u32 (v6 : Int)) := e6
      have m0 : (wr.drewN nq).cell? ⟨W1.heap.size, 0, none⟩ = some (.int .u32 (v0 : Int)) := e0
      have m4 : (wr.drewN nq).cell? ⟨W1.heap.size, 4, none⟩ = some (.int .u32 (v4 : Int)) := e4
      have k2 : (wr.drewN nq).cell? ⟨kb, i, none⟩ = some (.int .u32 (kv : Int)) := k1
      have w2 : (wr.drewN nq).cell? ⟨w.heap.size, i, none⟩ = some (.int .u32 (wv : Int)) := w1
      clear HWR e0 e1 e2 e3 e4 e5 e6 e7 k1 w1
      generalize wr.drewN nq = wq at *
      go_quiet (fail)
      have n1 : (wq.drewN nq).cell? ⟨W1.heap.size, 1, none⟩ = some (.int .u32 (v1 : Int)) := m1
      have n2 : (wq.drewN nq).cell? ⟨W1.heap.size, 2, none⟩ = some (.int .u32 (v2 : Int)) := m2
      have n3 : (wq.drewN nq).cell? ⟨W1.heap.size, 3, none⟩ = some (.int .u32 (v3 : Int)) := m3
      have n5 : (wq.drewN nq).cell? ⟨W1.heap.size, 5, none⟩ = some (.int .u32 (v5 : Int)) := m5
      have n6 : (wq.drewN nq).cell? ⟨W1.heap.size, 6, none⟩ = some (.int .u32 (v6 : Int)) := m6
      have n0 : (wq.drewN nq).cell? ⟨W1.heap.size, 0, none⟩ = some (.int .u32 (v0 : Int)) := m0
      have n4 : (wq.drewN nq).cell? ⟨W1.heap.size, 4, none⟩ = some (.int .u32 (v4 : Int)) := m4
      have n7 : (wq.drewN nq).cell? ⟨W1.heap.size, 7, none⟩ = some (.int .u32 (v7 : Int)) := m7
      obtain ⟨qq, hqq⟩ : ∃ qq, qq = q0 + nq := ⟨_, rfl⟩
      have HW3 : Hid (wq.drewN nq = wAr W1 [v0, v1, v2, v3, v4, v5, v6, v7] 98 qq) := (by rw [HWQ.out, wAr_draw, hqq] : wq.drewN nq = wAr W1 [v0, v1, v2, v3, v4, v5, v6, v7] 98 qq)
      clear HWQ hqq m0 m1 m2 m3 m4 m5 m6 m7 k2 w2
      have z0 : ∀ t, (wq.drewN nq).frozen? ⟨W1.heap.size, t, none⟩ = false := fun t => by rw [HW3.out]; exact wAr_fz
      generalize wq.drewN nq = w3 at *
      have z0' := z0 0; have z1 := z0 1; have z2 := z0 2; have z3 := z0 3; have z4 := z0 4; have z5 := z0 5; have z6 := z0 6; have z7 := z0 7
      clear z0
      go_wp2_with (go_at_call 85; refine (rot_call _ _ (by decide) (by assumption) _).mono ?_; rintro _ _ ⟨rfl, rfl⟩)
      have D : ks.drop i = kv :: ks.drop (i + 1) := by rw [HKV.out]; exact drop_get (by rw [HKL.out]; exact hi64)
      have D2 : ws.drop i = wv :: ws.drop (i + 1) := by rw [HWV.out]; exact drop_get (by rw [HWL.out]; exact hi64)
      have hT := HT.out
      rw [D, D2, turns] at hT
      refine ⟨⟨i + 1, qq, (v7 + S1 + CH + kv + wv + (rotN v0 2 ^^^ rotN v0 13 ^^^ rotN v0 22) + ((v0 &&& v1) ^^^ (v0 &&& v2) ^^^ (v1 &&& v2))) % M32, v0, v1, v2, (v3 + (v7 + S1 + CH + kv + wv)) % M32, v4, v5, v6, by simp, by omega, Nat.mod_lt _ (by unfold M32; omega), V0, V1, V2, Nat.mod_lt _ (by unfold M32; omega), V4, V5, V6, ?_, ?_⟩, by simp [intOf]; omega⟩
      · rw [← hT, HS1.out, HCH.out]
        rfl
      · have t1 : ((v7 : Int) + (S1 : Int) + (CH : Int) + (kv : Int) + (wv : Int) + bits BinOp.xor IntKind.u32 (bits BinOp.xor IntKind.u32 ((rotN v0 2 : Nat) : Int) ((rotN v0 13 : Nat) : Int)) ((rotN v0 22 : Nat) : Int) +
            bits BinOp.xor IntKind.u32 (bits BinOp.xor IntKind.u32 (bits BinOp.and IntKind.u32 (v0 : Int) (v1 : Int)) (bits BinOp.and IntKind.u32 (v0 : Int) (v2 : Int))) (bits BinOp.and IntKind.u32 (v1 : Int) (v2 : Int))) % 4294967296 =
            (((v7 + S1 + CH + kv + wv + (rotN v0 2 ^^^ rotN v0 13 ^^^ rotN v0 22) + ((v0 &&& v1) ^^^ (v0 &&& v2) ^^^ (v1 &&& v2))) % M32 : Nat) : Int) := by
          rw [bits_xor3 (rotN_lt _ _) (rotN_lt _ _) (rotN_lt _ _), bits_maj V0 V1 V2]
          unfold M32
          omega
        have t2 : ((v3 : Int) + ((v7 : Int) + (S1 : Int) + (CH : Int) + (kv : Int) + (wv : Int))) % 4294967296 = (((v3 + (v7 + S1 + CH + kv + wv)) % M32 : Nat) : Int) := by
          unfold M32
          omega
        rw [t1, t2, HW3.out, wAr_set8]
    · have hi64 : i = 64 := by omega
      have hT := HT.out
      rw [hi64, List.drop_eq_nil_of_le (by rw [HKL.out]; omega), List.drop_eq_nil_of_le (by rw [HWL.out]; omega), show turns [] [] [v0, v1, v2, v3, v4, v5, v6, v7] = [v0, v1, v2, v3, v4, v5, v6, v7] from rfl] at hT
      subst hi64
      obtain ⟨vv, hvv⟩ : ∃ vv, vv = [v0, v1, v2, v3, v4, v5, v6, v7] := ⟨_, rfl⟩
      obtain ⟨hh, hhh⟩ : ∃ hh, hh = [h0, h1, h2, h3, h4, h5, h6, h7] := ⟨_, rfl⟩
      have hvl : vv.length = 8 := by rw [hvv]; rfl
      have hhl : hh.length = 8 := by rw [hhh]; rfl
      have hv32 : W32 vv := by rw [hvv]; exact W32_8 V0 V1 V2 V3 V4 V5 V6 V7
      have hh32 : W32 hh := by rw [hhh]; exact W32_8 H0 H1 H2 H3 H4 H5 H6 H7
      have HO : Hid (∀ q, Holds e32 (wAr W1 vv 98 q) hb 0 hh.toArray) := (fun q => by
        have hN := HN1.out
        rw [hhh]
        intro j hj
        have hj8 : j < 8 := by simpa using hj
        refine ⟨?_, ?_⟩
        · rw [wAr_old (by omega), HW1.out, wAr_old hhb]
          rcases (by omega : j = 0 ∨ j = 1 ∨ j = 2 ∨ j = 3 ∨ j = 4 ∨ j = 5 ∨ j = 6 ∨ j = 7) with rfl | rfl | rfl | rfl | rfl | rfl | rfl | rfl
          · exact c0
          · exact c1
          · exact c2
          · exact c3
          · exact c4
          · exact c5
          · exact c6
          · exact c7
        · rw [wAr_fz_old (by omega), HW1.out, wAr_fz_old hhb]
          exact hfz j hj8 : ∀ q, Holds e32 (wAr W1 vv 98 q) hb 0 hh.toArray)
      have HR : Hid (blockN ks hh blk = (List.range 8).map fun j => (vv.getD j 0 + hh.getD j 0) % M32) := (by
        rw [hvv, hT, ← hhh, HWS.out]; rfl : blockN ks hh blk = (List.range 8).map fun j => (vv.getD j 0 + hh.getD j 0) % M32)
      rw [← hvv] at HWR
      have HHH : Hid (hh = [h0, h1, h2, h3, h4, h5, h6, h7]) := hhh
      have HVL : Hid (vv.length = 8) := hvl
      have HHL : Hid (hh.length = 8) := hhl
      have HV32 : Hid (W32 vv) := hv32
      have HH32 : Hid (W32 hh) := hh32
      clear hT hvv hhh hvl hhl hv32 hh32 e0 e1 e2 e3 e4 e5 e6 e7 V0 V1 V2 V3 V4 V5 V6 V7 H0 H1 H2 H3 H4 H5 H6 H7 c0 c1 c2 c3 c4 c5 c6 c7 hfz
      go_loopw [109] (fun vi wr => ∃ (i q : Nat) (d : List Nat), vi = .int .i64 i ∧ i ≤ 8 ∧ d.length = 8 ∧ mixR vv hh d i ∧ wr = putN (wAr W1 vv 98 q) hb d) (fun vi _ => 8 - (intOf vi).toNat)
      case atStart =>
        refine ⟨0, q, hh, rfl, by omega, HHL.out, fun j => by simp, ?_⟩
        unfold putN
        rw [putRow_self _ _ _ _ _ (HO.out q)]
        exact HWR.out
      case round =>
        clear HWR
        obtain ⟨i2, q2, d, rfl, hi2, hdl, hd, hwr⟩ := hrel
        have HDL : Hid (d.length = 8) := hdl
        have HD : Hid (mixR vv hh d i2) := hd
        have HWR : Hid (wr = putN (wAr W1 vv 98 q2) hb d) := hwr
        clear hdl hd hwr
        go_wp2
        · have hi8 : i2 < 8 := by omega
          have hN := HN1.out
          have p1 : wr.cell? ⟨hb, i2, none⟩ = some (.int .u32 ((d.getD i2 0 : Nat) : Int)) := by rw [HWR.out]; exact putN_get (HO.out q2) (by rw [HDL.out, HHL.out]) (by rw [HDL.out]; exact hi8)
          have p2 : wr.cell? ⟨W1.heap.size, i2, none⟩ = some (.int .u32 ((vv.getD i2 0 : Nat) : Int)) := by
            rw [HWR.out, putN_other (by show W1.heap.size ≠ hb; omega), wAr_get (by rw [HVL.out]; exact hi8)]
          have b1 : 0 ≤ (i2 : Int) ∧ (i2 : Int) < 8 := by omega
          obtain ⟨x, hx⟩ : ∃ x, x = d.getD i2 0 := ⟨_, rfl⟩
          obtain ⟨y, hy⟩ : ∃ y, y = vv.getD i2 0 := ⟨_, rfl⟩
          rw [← hx] at p1
          rw [← hy] at p2
          have HX : Hid (x = hh.getD i2 0) := (by rw [hx, HD.out i2, if_neg (by omega)] : x = hh.getD i2 0)
          have HY : Hid (y = vv.getD i2 0) := hy
          clear hx hy hN
          have hDR : Hid (wr.drew = putN (wAr W1 vv 98 (q2 + 1)) hb d) := (by rw [HWR.out]; rfl : wr.drew = putN (wAr W1 vv 98 (q2 + 1)) hb d)
          go_still_tail 10, (by kernel_rfl)
          change wpList _ _ _ _ _ wr.drew
          have s1 : wr.drew.cell? ⟨hb, i2, none⟩ = some (.int .u32 (x : Int)) := p1
          have s2 : wr.drew.frozen? ⟨hb, i2, none⟩ = false := by
            rw [hDR.out]
            have := (HO.out (q2 + 1) i2 (by simp [HHL.out]; omega)).2
            rw [Nat.zero_add] at this
            unfold putN
            rw [frozen?_putRow]
            exact this
          generalize wr.drew = w2 at hDR s1 s2 ⊢
          go_wp2
          refine ⟨?_, ?measure⟩
          iterate 16 apply Exists.intro
          refine ⟨?rel, rfl⟩
          case rel =>
            refine ⟨i2 + 1, q2 + 1, d.set i2 ((y + x) % M32), by simp, by omega, by simp [HDL.out], ?_, ?_⟩
            · intro j
              have h3 := HD.out j
              by_cases hj : j = i2
              · subst hj
                rw [if_pos (by omega), HX.out, HY.out]
                simp [List.getD, HDL.out, hi8]
              · have h4 : (d.set i2 ((y + x) % M32)).getD j 0 = d.getD j 0 := by
                  simp [List.getD, List.getElem?_set_ne (Ne.symm hj)]
                rw [h4, h3]
                by_cases h5 : j < i2
                · rw [if_pos h5, if_pos (by omega)]
                · rw [if_neg h5, if_neg (by omega)]
            · rw [← putN_set (by rw [HDL.out]; exact hi8), ← hDR.out]
              congr 2
              unfold M32
              omega
          case measure => simp [intOf]; omega
        · have hi8 : i2 = 8 := by omega
          subst hi8
          go_end0
          refine ⟨rfl, q1, q2, vv, ?_⟩
          rw [HWR.out, HW1.out, HWS.out, ← HHH.out, HR.out]
          congr 1
          refine List.ext_getElem (by simp [HDL.out]) fun j h1 h2 => ?_
          have h3 := HD.out j
          rw [HDL.out] at h1
          rw [if_pos h1] at h3
          simpa [List.getD, h1, HDL.out] using h3
end Go.Proofs.Ytnddpgeeoepkkaa

namespace Go.Proofs
open Go Go.Shelf
def Try.laysClone_ren : Go.Shelf.Ren := ⟨fun | 41 => 83 | n => n, fun | 22 => 83 | 23 => 5 | 4 => 4 | n => n, fun | n => n⟩
theorem Try.laysClone : Go.Proofs.SlLaysE0.n41 Try.prog Try.laysClone_ren where
  mixed := by kernel_rfl
  f41 := ⟨"slices.Clone[[]byte,byte]", by decide, Try.func83.trans (congrArg some (by kernel_rfl))⟩
  t4 := Try.underlying4
  a4 := Try.isAgg4
  z4 := Try.sizeOf4
  v4 := Try.zeroValue4
  t22 := Try.underlying83
  a22 := Try.isAgg83
  z22 := Try.sizeOf83
  v22 := Try.zeroValue83
end Go.Proofs
namespace Go.Proofs.Ytnddpgeeoepkkaa
open Go Go.E Go.Proofs Go.RowKit
mutual
theorem bulk_eq {H : Type} : ∀ d : DataW H, Rows.uptoBulk d = bulkW d
  | .lit l => by cases l <;> simp [Rows.uptoBulk, bulkW]
  | .nil => by simp [Rows.uptoBulk, bulkW]
  | .ptr d => by simp [Rows.uptoBulk, bulkW, bulk_eq d]
  | .slice elems spare => by simp [Rows.uptoBulk, bulkW, bulkAll_eq elems, bulkAll_eq spare]
  | .agg parts => by simp [Rows.uptoBulk, bulkW, bulkAll_eq parts]
  | .iface t d => by simp [Rows.uptoBulk, bulkW, bulk_eq d]
  | .map entries => by simp [Rows.uptoBulk, bulkW, bulkEntries_eq entries]
  | .held h => by simp [Rows.uptoBulk, bulkW]
theorem bulkAll_eq {H : Type} : ∀ ds : List (DataW H), Rows.uptoBulkAll ds = bulkAll ds
  | [] => by simp [Rows.uptoBulkAll, bulkAll]
  | d :: r => by simp [Rows.uptoBulkAll, bulkAll, bulk_eq d, bulkAll_eq r]
theorem bulkEntries_eq {H : Type} : ∀ ds : List (Lit × DataW H), Rows.uptoBulkEntries ds = bulkEntries ds
  | [] => by simp [Rows.uptoBulkEntries, bulkEntries]
  | x :: r => by simp [Rows.uptoBulkEntries, bulkEntries, bulkEntry_eq x, bulkEntries_eq r]
theorem bulkEntry_eq {H : Type} : ∀ x : Lit × DataW H, Rows.uptoBulkEntry x = bulkEntry x
  | (l, d) => by cases l <;> simp [Rows.uptoBulkEntry, bulkEntry, bulk_eq d]
end
theorem upto_le {H : Type} {ds : List (DataW H)} (h : Rows.uptoSmall H ds = true) : bulkAll ds ≤ 1048576 := by
  rw [← bulkAll_eq]
  exact of_decide_eq_true h
theorem laid : laidOutB Try.prog = true := by kernel_rfl
theorem cx_ok : CtxOk CX Try.prog := ctx_ok (tab := tyTab) (fns := fnTab) rfl rfl (by kernel_rfl) fns_ok (by kernel_rfl)
theorem own : ownKnob Try.prog.godebug = none := by kernel_rfl
theorem clone_ok {args : List Arg} (h : primClone [.sc (.int .u8)] args ≠ .bad) : FnOk Try.prog 83 args (primClone [.sc (.int .u8)] args) := by
  have hte : CX.ty (Try.laysClone_ren.t 23) = some ⟨.sc (.int .u8), [.sc (.int .u8)], 1, false⟩ := by kernel_rfl
  exact primClone_ok cx_ok Try.laysClone hte (by simp) h
theorem prims0_ok : PrimOk CX Try.prog prims0 := fun f g args h hne => by
  unfold prims0 at h
  cases h1 : Nat.beq f 83 with
  | true =>
    rw [h1] at h; cases h
    have := Nat.eq_of_beq_eq_true h1
    subst this
    exact clone_ok hne
  | false => rw [h1] at h; cases h
end Go.Proofs.Ytnddpgeeoepkkaa

namespace Go.Proofs.Ytnddpgeeoepkkaa
open Go Go.E Go.Proofs Go.RowKit Go.Sort
theorem ipadL0 (m : Nat) (x0 : T) : ∀ (z : Nat) (l : List Nat), z = (120 - l.length % 64) % 64 → l.length + z ≤ 1099511627776 → ∀ n, z < n → ∀ k0,
    impl_Padded_L0_0 m n x0 (.l (nr l)) k0 = k0 x0 (.l (nr (l ++ List.replicate z 0)))
  | 0, l, hz, hl, n, hn, k0 => by
    obtain ⟨n, rfl⟩ : ∃ m', n = m' + 1 := ⟨n - 1, by omega⟩
    have e0 : IntKind.i64.wrap ((l.length : Int) + 8) = ((l.length + 8 : Nat) : Int) := by rw [wrap_i64 (by omega) (by omega)]; omega
    have e : Int.tmod ((l.length + 8 : Nat) : Int) 64 = 0 := by
      rw [show (64 : Int) = ((64 : Nat) : Int) from rfl, ← Int.ofNat_tmod]; omega
    simp only [impl_Padded_L0_0, T.rows_l, nr_len, e0, e]
    simp
  | z + 1, l, hz, hl, n, hn, k0 => by
    obtain ⟨n, rfl⟩ : ∃ m', n = m' + 1 := ⟨n - 1, by omega⟩
    have e0 : IntKind.i64.wrap ((l.length : Int) + 8) = ((l.length + 8 : Nat) : Int) := by rw [wrap_i64 (by omega) (by omega)]; omega
    have e : Int.tmod ((l.length + 8 : Nat) : Int) 64 = (((l.length + 8) % 64 : Nat) : Int) := by
      rw [show (64 : Int) = ((64 : Nat) : Int) from rfl, ← Int.ofNat_tmod]
    have ih := ipadL0 m x0 z (l ++ [0]) (by simp; omega) (by simp; omega) n (by omega) k0
    simp only [impl_Padded_L0_0, T.rows_l, nr_len, e0, e]
    rw [cond_t (by simp; omega), dec_t (by unfold maxRow; omega)]
    rw [show nr l ++ [[T.i 0]] = nr (l ++ [0]) from nr_snoc l 0, ih]
    simp [List.replicate_succ]
theorem ipadL1 (m N : Nat) : ∀ (j : Nat), j ≤ 8 → ∀ (l : List Nat), l.length + j ≤ 1099511627776 → ∀ n, j < n → ∀ k0,
    impl_Padded_L1_0 m n (.i (N : Int)) (.i ((j : Int) - 1)) (.l (nr l)) k0 = k0 (.l (nr (l ++ tailB N j)))
  | 0, _, l, hl, n, hn, k0 => by
    obtain ⟨n, rfl⟩ : ∃ m', n = m' + 1 := ⟨n - 1, by omega⟩
    simp only [impl_Padded_L1_0, T.rows_l, T.int_i, tailB, List.append_nil]
    rw [dec_f (by simp)]
  | j + 1, hj, l, hl, n, hn, k0 => by
    obtain ⟨n, rfl⟩ : ∃ m', n = m' + 1 := ⟨n - 1, by omega⟩
    have ih := ipadL1 m N j (by omega) (l ++ [(N / 2 ^ (8 * j)) % 256]) (by simp; omega) n (by omega) k0
    have e1 : (((j + 1 : Nat) : Int) - 1) = ((j : Nat) : Int) := by omega
    have e5 : IntKind.i64.wrap (8 * ((j : Nat) : Int)) = ((8 * j : Nat) : Int) := by rw [wrap_i64 (by omega) (by omega)]; omega
    have e2 : IntKind.u64.wrap (((8 * j : Nat)) : Int) = ((8 * j : Nat) : Int) := wrap_u64 (by omega) (by omega)
    have e3 : min (8 * j) IntKind.i64.bits = 8 * j := Nat.min_eq_left (by show 8 * j ≤ 64; omega)
    have e4 : IntKind.i64.wrap (((j : Nat) : Int) - 1) = (j : Int) - 1 := by rw [wrap_i64 (by omega) (by omega)]
    simp only [impl_Padded_L1_0, T.rows_l, T.int_i, e1, e5, e2, Int.toNat_natCast, e3, e4, nr_len, fdiv_nat, wrap_u8]
    rw [dec_t (by omega), dec_t (by omega), dec_t (by unfold maxRow; omega), nr_snoc, ih]
    simp [tailB]
theorem ipad_ok {m : Nat} (l : List Nat) (hl : l.length ≤ 1073741824) (hm : 200 ≤ m) (k : T → An) : impl_Padded m (.l (nr l)) k = k (.l (nr (padN l))) := by
  obtain ⟨m, rfl⟩ : ∃ m', m = m' + 2 := ⟨m - 2, by omega⟩
  simp only [impl_Padded, slices_Clone___byte_byte_, T.rows_l, nr_len]
  rw [dec_t (by unfold maxRow; omega), dec_t (by unfold maxRow; omega), show nr l ++ [[T.i 128]] = nr (l ++ [128]) from nr_snoc l 128]
  rw [ipadL0 (m + 1) _ ((119 - l.length % 64) % 64) (l ++ [128]) (by simp; omega) (by simp; omega) (m + 1) (by omega)]
  simp only [T.rows_l, nr_len]
  have e : IntKind.i64.wrap (8 * (l.length : Int)) = ((8 * l.length : Nat) : Int) := by rw [wrap_i64 (by omega) (by omega)]; omega
  rw [e]
  have := ipadL1 (m + 1) (8 * l.length) 8 (by omega) (l ++ [128] ++ List.replicate ((119 - l.length % 64) % 64) 0) (by simp; omega) (m + 1) (by omega) (fun y2 => k (.l y2.rows))
  rw [show (((8 : Nat) : Int) - 1) = 7 from rfl] at this
  rw [this]
  rfl
theorem padded_fn (l : List Nat) (hl : l.length ≤ 1073741824) : FnOk Try.prog 74 [.one (.fz [.sc (.int .u8)] (nr l))] (.ok ⟨[.one (.own [6000000, 0, 0] [.sc (.int .u8)] [.F] (nr (padN l)))], [[none]], [none]⟩) := by
  have h1 : callK CX prims0 200 74 [.one (.fz [.sc (.int .u8)] (nr l))] .ok = .ok ⟨[.one (.own [6000000, 0, 0] [.sc (.int .u8)] [.F] (nr (padN l)))], [[none]], [none]⟩ :=
    (impl_Padded_g.2 200 [.l (nr l)] .ok).trans (ipad_ok l hl (Nat.le_refl _) _)
  rw [callK_eq] at h1
  have h2 : callE CX prims0 200 74 [.one (.fz [.sc (.int .u8)] (nr l))] = .ok ⟨[.one (.own [6000000, 0, 0] [.sc (.int .u8)] [.F] (nr (padN l)))], [[none]], [none]⟩ := by
    cases hc : callE CX prims0 200 74 [.one (.fz [.sc (.int .u8)] (nr l))] with
    | ok r => rw [hc] at h1; exact h1
    | bad => rw [hc] at h1; cases h1
    | out => rw [hc] at h1; cases h1
  have h3 := call_ok cx_ok prims0_ok 200 74 [.one (.fz [.sc (.int .u8)] (nr l))] (by kernel_rfl) (by rw [h2]; exact fun h => nomatch h)
  rw [h2] at h3
  exact h3
end Go.Proofs.Ytnddpgeeoepkkaa

namespace Go.Proofs.Ytnddpgeeoepkkaa
open Go Go.E Go.Proofs Go.RowKit Go.Sort Go.Shelf
attribute [local go_sem] Oper.semAt_some
set_option maxRecDepth 1000000 in
theorem chunk_in (F : Fence) (n : Nat) (h43 : F.fn 73) (hro : F.round = none) (a : Option Addr) (len cap : Nat) (w : World) :
    CallsIn F n Try.prog 73 #[.slice a len cap, .int .i64 64] w fun e w' => e = .returned (.func (.func 82) #[] #[.pointer (some ⟨w.heap.size, 0, none⟩), .pointer (some ⟨w.heap.size + 1, 0, none⟩)]) ∧ w' = (w.alloc (.cells #[.slice a len cap] 83)).alloc (.cells #[.int .i64 64] 3) := by
  have hmf : ∀ (fn : Fn) (first cap : Array Value) (w : World), (Instr.makeFunc fn first cap).run Try.prog w = .ok (.func fn first cap) w := fun _ _ _ _ => rfl
  refine callsIn_of_wp Try.func73 rfl h43 ?_ hro
  simp only [Try.ntmps73, List.size_toArray, List.length_cons, List.length_nil, Nat.reduceAdd, Nat.reduceSub, Array.replicate_succ, Array.replicate_zero, List.push_toArray, List.append_toArray, List.nil_append, List.cons_append]
  gi_wp2
  go_ret
  exact ⟨rfl, rfl⟩
/-- what the closure reads: its two boxes -/
def KpB (Bs Bn : Nat) (W W' : World) : Prop := W'.heap[Bs]? = W.heap[Bs]? ∧ W'.heap[Bn]? = W.heap[Bn]?
theorem KpB.t {Bs Bn : Nat} {A B C : World} (h : KpB Bs Bn A B) (k : KpB Bs Bn B C) : KpB Bs Bn A C := ⟨k.1.trans h.1, k.2.trans h.2⟩
theorem KpB.cells {Bs Bn : Nat} {A B : World} (h : KpB Bs Bn A B) : B.cell? ⟨Bs, 0, none⟩ = A.cell? ⟨Bs, 0, none⟩ ∧ B.cell? ⟨Bn, 0, none⟩ = A.cell? ⟨Bn, 0, none⟩ := by
  unfold World.cell?
  simp only [h.1, h.2, and_self]
def blkV (pb k : Nat) : Value := .slice (some ⟨pb, 64 * k, none⟩) 64 64
set_option maxRecDepth 1000000 in
set_option maxHeartbeats 4000000 in
theorem chunk1_in (F : Fence) (n : Nat) (h52 : F.fn 82) (hro : F.round = none) (hn : 1 ≤ n) (l Bs Bn pb c cap : Nat) (hreach : 64 * c ≤ 140737488351232) (hcap : 64 * c ≤ cap) (J Jx : List { k : Nat // k < c } → World → Prop)
    (hY : ∀ pre x W, J pre W → pre.length < c → YieldAt F (n - 1) Try.prog l #[blkV pb x.1] W fun e W' =>
      (e = .returned (.bool true) ∧ J (pre ++ [x]) W' ∧ KpB Bs Bn W W') ∨ (e = .returned (.bool false) ∧ Jx (pre ++ [x]) W'))
    (W : World) (hBs : W.cell? ⟨Bs, 0, none⟩ = some (.slice (some ⟨pb, 0, none⟩) (64 * c) cap)) (hBn : W.cell? ⟨Bn, 0, none⟩ = some (.int .i64 64)) (h0 : J [] W) (hJd : ∀ s A q, J s A → J s (A.drewN q)) :
    CallsIn F n Try.prog 82 #[.func (.yield l) #[] #[], .pointer (some ⟨Bs, 0, none⟩), .pointer (some ⟨Bn, 0, none⟩)] W fun e W' => (∃ v, e = .returned v) ∧
      ((∃ ys : List { k : Nat // k < c }, ys.map (·.1) = List.range c ∧ J ys W') ∨ (∃ pre, Jx pre W')) := by
  refine callsIn_of_wp Try.func82 rfl h52 ?_ hro
  simp only [Try.ntmps82, List.size_toArray, List.length_cons, List.length_nil, Nat.reduceAdd, Nat.reduceSub, Array.replicate_succ, Array.replicate_zero, List.push_toArray, List.append_toArray, List.nil_append, List.cons_append]
  gi_wp2
  gi_loopw [4] (fun i wr => ∃ (k : Nat) (ys : List { k : Nat // k < c }), k ≤ c ∧ i = .int .i64 ((64 * k : Nat) : Int) ∧ ys.map (·.1) = List.range k ∧ J ys wr ∧ wr.cell? ⟨Bs, 0, none⟩ = some (.slice (some ⟨pb, 0, none⟩) (64 * c) cap) ∧ wr.cell? ⟨Bn, 0, none⟩ = some (.int .i64 64))
    (fun i _ => 64 * c - (intOf i).toNat)
  case atStart => exact ⟨0, [], Nat.zero_le _, rfl, rfl, h0, hBs, hBn⟩
  case round =>
    obtain ⟨k, ys, hk, rfl, hys, hJs, c1, c2⟩ := hrel
    have HYS : Hid (ys.map (·.1) = List.range k) := hys
    by_cases hlt : k < c
    · have i1 : (((64 * k : Nat) : Int)) < (((64 * c : Nat)) : Int) := by omega
      have i2 : 0 ≤ ((64 * k : Nat) : Int) := by omega
      have i3 : ((64 * k : Nat) : Int) + 64 < 9223372036854775807 := by omega
      have i4 : ((64 * k : Nat) : Int) + 64 ≤ ((64 * c : Nat) : Int) := by omega
      have i5 : 64 * k + 64 ≤ 64 * c := by omega
      obtain ⟨p, hp⟩ : ∃ p, p = 64 * k := ⟨_, rfl⟩
      obtain ⟨L, hL⟩ : ∃ L, L = 64 * c := ⟨_, rfl⟩
      rw [← hp] at i1 i2 i3 i4 i5 ⊢
      rw [← hL] at i1 i4 i5 c1 hcap hreach ⊢
      have HP : Hid (p = 64 * k) := hp
      have HL : Hid (L = 64 * c) := hL
      clear hp hL hys
      gi_wp2
      refine wpIn_region_quiet_lit hro (by kernel_rfl) (by kernel_rfl) ?_
      repeat (gi_big_quiet_step (fail))
      refine wpQuietIn_nil ?_
      intro _ hw'
      obtain ⟨nq, hw''⟩ := hw'
      subst hw''
      have hm1 : min 64 ((L - p : Nat) : Int) = 64 := by omega
      have hm2 : ((p : Int) + 64).toNat - p = 64 := by omega
      rw [hm1]
      have hJ2 : J ys (wr.drewN nq) := hJd ys wr nq hJs
      have e1 : (wr.drewN nq).cell? ⟨Bs, 0, none⟩ = some (.slice (some ⟨pb, 0, none⟩) L cap) := c1
      have e2 : (wr.drewN nq).cell? ⟨Bn, 0, none⟩ = some (.int .i64 64) := c2
      generalize wr.drewN nq = w2 at *
      obtain ⟨fn, tmps, assign, body, hy, hR⟩ := hY ys ⟨k, hlt⟩ w2 hJ2 (by
        have := congrArg List.length HYS.out
        rw [List.length_map, List.length_range] at this
        omega)
      rw [show blkV pb (⟨k, hlt⟩ : { k : Nat // k < c }).1 = .slice (some ⟨pb, p, none⟩) 64 64 by rw [HP.out]; rfl] at hy
      gi_wp2
      refine hR.mono ?_
      rintro e W3 (⟨rfl, hJ3, hk3⟩ | ⟨rfl, hJx3⟩)
      · have d1 : W3.cell? ⟨Bs, 0, none⟩ = some (.slice (some ⟨pb, 0, none⟩) L cap) := hk3.cells.1.trans e1
        have d2 : W3.cell? ⟨Bn, 0, none⟩ = some (.int .i64 64) := hk3.cells.2.trans e2
        gi_wp2
        refine ⟨⟨k + 1, ys ++ [⟨k, hlt⟩], by omega, ?_, by rw [List.map_append, HYS.out, List.range_succ]; rfl, hJ3, d1, d2⟩, ?_⟩
        · have := HP.out
          congr 1
          omega
        · simp [intOf]; omega
      · gi_wp2
        refine bodyPost_ret (results_none rfl _ _ _) rfl ?_
        exact ⟨⟨_, rfl⟩, .inr ⟨_, hJx3⟩⟩
    · obtain rfl : k = c := by omega
      gi_wp2
      go_end0
      exact ⟨⟨_, rfl⟩, .inl ⟨_, HYS.out, hJs⟩⟩
end Go.Proofs.Ytnddpgeeoepkkaa

namespace Go.Proofs.Ytnddpgeeoepkkaa
open Go Go.E Go.Proofs Go.RowKit Go.Sort Go.Shelf
theorem below_keeps {w w' : World} (h : Keeps (fun b o => ∃ v, cellAt w b o = some v) w w') : Below w.heap.size w w' := by
  refine ⟨h.os, h.tape, h.output, h.size, fun k hk => ?_⟩
  obtain ⟨x, hx⟩ : ∃ x, w.heap[k]? = some x := ⟨w.heap[k], Array.getElem?_eq_getElem hk⟩
  obtain ⟨y, hy, hk2⟩ := h.obj k x hx
  rw [hx, hy]
  cases x with
  | cells c el fz =>
    obtain ⟨c', rfl, hs, hc⟩ := hk2
    have : c' = c := by
      refine Array.ext_getElem? fun o => ?_
      by_cases ho : o < c.size
      · refine hc o ⟨c[o], ?_⟩
        unfold cellAt World.cell?
        simp [hx, ho]
      · rw [Array.getElem?_eq_none (by omega), Array.getElem?_eq_none (by omega)]
    rw [this]
  | _ => exact congrArg some hk2
/-- the cells of rows of bytes -/
theorem rows_u8 {w : World} {I : Foot} : ∀ {l : List Nat} {cs : List Value} {bs : List Nat}, RowsOf (fun vs ds bs => LeavesM w I [.sc (.int .u8)] [.F] vs ds bs) 1 (nr l) cs bs → ∀ i, i < l.length → cs[i]? = some (.int .u8 ((l.getD i 0 : Nat) : Int))
  | [], cs, bs, h, i, hi => by cases hi
  | x :: l, cs, bs, h, i, hi => by
    obtain ⟨b1, b2, rfl, h1, h2⟩ := h
    simp only [LeavesM] at h1
    obtain ⟨v, vs', d, ds', c1, c2, e1, e2, e3, hc, h3, -⟩ := h1
    simp only [CellM, ScR] at hc
    obtain ⟨⟨n, rfl, rfl, -⟩, -⟩ := hc
    subst h3
    cases cs with
    | nil => simp at e1
    | cons c cs =>
      simp at e1
      subst e1
      have hd : n = (x : Int) := by cases e2; rfl
      subst hd
      cases i with
      | zero => rfl
      | succ i => exact rows_u8 h2 i (by simpa using hi)
theorem padN_len (l : List Nat) : ∃ c, 1 ≤ c ∧ (padN l).length = 64 * c := by
  refine ⟨(l.length + 1 + (119 - l.length % 64) % 64 + 8) / 64, by omega, ?_⟩
  simp [padN]
  omega
theorem padded_calls (l : List Nat) (hl : l.length ≤ 1073741824) (W : World) (S : Foot) (v : Value) (hv : LeafR W S (.sl [.sc (.int .u8)]) v (.l (nr l))) (hS : ∀ b o, S b o → ∃ v, cellAt W b o = some v) :
    Calls Try.prog 74 #[v] W fun e W' => ∃ pb cap, e = .returned (.slice (some ⟨pb, 0, none⟩) (padN l).length cap) ∧ (padN l).length ≤ cap ∧ W.heap.size ≤ pb ∧ pb < W'.heap.size ∧
      (∀ i, i < (padN l).length → W'.cell? ⟨pb, i, none⟩ = some (.int .u8 (((padN l).getD i 0 : Nat) : Int))) ∧ Below W.heap.size W W' := by
  obtain ⟨g0, hg0⟩ : ∃ g0 : Gh, g0 = ⟨fun _ => undef, fun _ _ _ => False, fun _ _ => False⟩ := ⟨_, rfl⟩
  have hnh : ∀ {k : Key} {p : Prop}, Held [.one (.fz [.sc (.int .u8)] (nr l))] k → p := fun {k p} h => by
    unfold Held at h
    simp only [chsAll, chsIn, alChs, List.append_nil, findCh] at h
    exact False.elim h
  have hp : Pre g0 S (fun b o => ∃ v, cellAt W b o = some v) [.one (.fz [.sc (.int .u8)] (nr l))] W #[v] := by
    refine ⟨⟨hv, trivial⟩, fun k k' h => hnh h, fun k h => hnh h, fun k h => hnh h, hS, fun b o h => h, fun b o h => by rw [hg0] at h; exact h.elim⟩
  refine (padded_fn l hl g0 S _ W #[v] hp).mono fun e W' h => ?_
  cases e with
  | returned u =>
    obtain ⟨ret, g', I', e1, h⟩ := h
    cases e1
    obtain ⟨us, rfl, hres⟩ := h.res
    have hbel := below_keeps (w := W) (w' := W') ⟨h.keeps.size, fun b x hx => by
      obtain ⟨y, hy, hk⟩ := h.keeps.obj b x hx
      refine ⟨y, hy, ?_⟩
      cases x with
      | cells c el fz =>
        obtain ⟨c', rfl, h2, h3⟩ := hk
        exact ⟨c', rfl, h2, fun o ho => h3 o (.inr ho)⟩
      | _ => exact hk, h.keeps.os, h.keeps.output, h.keeps.tape⟩
    match us, hres with
    | [], hres => exact False.elim hres
    | _ :: _ :: _, hres => exact False.elim hres.2
    | [u], hres =>
      obtain ⟨⟨hs, hu, bs, hnd, hcm, hF⟩, -⟩ := hres
      obtain ⟨c, hc1, hc⟩ := padN_len l
      have hne : padN l ≠ [] := fun h => by rw [h] at hc; simp at hc; omega
      simp only [CellM] at hcm
      obtain ⟨rows, hrw, -, hmax, ⟨-, hr0, -⟩ | ⟨pb, cap, cs, el, fz, bs', rfl, rfl, hcap, hblk, hsz, hfz, hro⟩⟩ := hcm
      · cases hrw
        have h9 := congrArg List.length hr0
        rw [nr_len, List.length_nil] at h9
        omega
      · cases hrw
        rw [nr_len] at hcap
        have hsz1 : cs.size = cap := by rw [hsz]; simp
        have hcell : ∀ i, i < (padN l).length → cs.toList[i]? = some (.int .u8 (((padN l).getD i 0 : Nat) : Int)) := fun i hi => rows_u8 hro i hi
        have hlt' : pb < W'.heap.size := (Array.getElem?_eq_some_iff.1 hblk).1
        refine ⟨pb, cap, by rw [nr_len]; rfl, hcap, ?_, hlt', fun i hi => ?_, hbel⟩
        · refine Nat.le_of_not_lt fun hlt => ?_
          have hout : Out ⟨[.one (.own [6000000, 0, 0] [.sc (.int .u8)] [.F] (nr (padN l)))], [[none]], [none]⟩ [6000000, 0, 0] := .inl (by simp [retKeys, keysOfR, keysOfL])
          have hb1 : W'.heap[pb]? = W.heap[pb]? := hbel.block pb hlt
          have h1 : cellAt W' pb 0 = some (.int .u8 (((padN l).getD 0 0 : Nat) : Int)) := by
            unfold cellAt World.cell?
            unfold Block at hblk
            simp only [hblk]
            have := hcell 0 (by omega)
            simpa using this
          have h2 : cellAt W pb 0 = cellAt W' pb 0 := by
            unfold cellAt World.cell?
            simp only [hb1]
          refine h.frm _ hout pb 0 ((hF pb 0).2 ⟨List.mem_cons_self .., ?_⟩) ⟨_, h2.trans h1⟩
          unfold sizeB
          unfold Block at hblk
          simp only [hblk]
          omega
        · unfold World.cell?
          unfold Block at hblk
          simp only [hblk]
          simpa using hcell i hi
  | panicked c => exact h.elim
  | outgrown => exact h.elim
end Go.Proofs.Ytnddpgeeoepkkaa

namespace Go.Proofs.Ytnddpgeeoepkkaa
open Go Go.E Go.Proofs Go.RowKit Go.Sort Go.Shelf
attribute [local go_sem] Oper.semAt_some
set_option maxRecDepth 1000000 in
set_option maxHeartbeats 8000000 in
theorem rounds_walk (w : World) : Calls Try.prog 72 #[] w fun e w' => e = .returned (.pointer (some ⟨w.heap.size, 0, none⟩)) ∧ w' = w.alloc (.cells (kN.map e32).toArray 110) := by
  go_enter Try.func72, Try.ntmps72
  go_wp2
  go_ret
  exact ⟨rfl, by simp [kN, e32]⟩
end Go.Proofs.Ytnddpgeeoepkkaa

namespace Go.Proofs.Ytnddpgeeoepkkaa
open Go Go.E Go.Proofs Go.RowKit Go.Sort Go.Shelf
attribute [local go_sem] Oper.semAt_some
/-! worlds -/
theorem heap_wAr {w : World} {d : List Nat} {t q k : Nat} (h : k < w.heap.size) : (wAr w d t q).heap[k]? = w.heap[k]? := by
  show (w.heap.push _)[k]? = _
  rw [Array.getElem?_push_lt h]
  simp [h]
theorem heap_putN {w : World} {b k : Nat} {d : List Nat} (h : k ≠ b) : (putN w b d).heap[k]? = w.heap[k]? := by
  show (w.heap.modify b _)[k]? = _
  rw [Array.getElem?_modify, if_neg (Ne.symm h)]
theorem size_putN {w : World} {b : Nat} {d : List Nat} : (putN w b d).heap.size = w.heap.size := size_putRow e32 w b 0 d.toArray
theorem holds_wAr {w : World} {d a : List Nat} {b t q : Nat} (hb : b < w.heap.size) (h : Holds e32 w b 0 d.toArray) : Holds e32 (wAr w a t q) b 0 d.toArray := fun j hj => by
  obtain ⟨h1, h2⟩ := h j hj
  exact ⟨(wAr_old hb).trans h1, (wAr_fz_old hb).trans h2⟩
theorem holds_lt {w : World} {d : List Nat} {b : Nat} (h : Holds e32 w b 0 d.toArray) (hd : 0 < d.length) : b < w.heap.size := by
  have := (h 0 (by simpa using hd)).1
  exact cell_lt (o := 0 + 0) ⟨_, this⟩
theorem below_wAr {w : World} {d : List Nat} {t q B : Nat} (h : B ≤ w.heap.size) : Below B w (wAr w d t q) := ⟨rfl, rfl, rfl, by rw [wAr_size]; omega, fun k hk => heap_wAr (by omega)⟩
theorem below_putN {w : World} {d : List Nat} {b B : Nat} (h : B ≤ b) : Below B w (putN w b d) := ⟨rfl, rfl, rfl, by rw [size_putN]; exact Nat.le_refl _, fun k hk => heap_putN (by omega)⟩
theorem keeps_wAr {w : World} {d : List Nat} {t q : Nat} : KeepsOthers w (wAr w d t q) := ⟨by rw [wAr_size]; omega, fun k o h _ => (heap_wAr (Array.getElem?_eq_some_iff.1 h).1).trans h⟩
theorem keeps_putN {w : World} {d d0 : List Nat} {b : Nat} (h : Holds e32 w b 0 d0.toArray) (hd : 0 < d0.length) : KeepsOthers w (putN w b d) := ⟨by rw [size_putN]; exact Nat.le_refl _, fun k o hk ho => by
  by_cases e : k = b
  · subst e
    have h1 := (h 0 (by simpa using hd)).1
    unfold World.cell? at h1
    simp only [hk] at h1
    cases o <;> first | (simp [Obj.isCells] at ho; done) | (simp at h1; done)
  · exact (heap_putN e).trans hk⟩
theorem own_holds {w w' : World} {row : Option Nat} {b : Nat} {d : List Nat} (h : Holds e32 w b 0 d.toArray) (hg : w.grownBy w' row) (hr : ∀ r, row = some r → ∃ o : Obj, w.heap[r]? = some o ∧ o.isCells = false) : Holds e32 w' b 0 d.toArray :=
  fun j hj => ⟨cell_kept (h j hj).1 hg hr, (frozen_kept (h j hj).1 hg hr).trans (h j hj).2⟩
/-! blocks -/
def blkN (p : List Nat) (k : Nat) : List Nat := (p.drop (64 * k)).take 64
def hashN (p : List Nat) (ks : List Nat) : List Nat := ks.foldl (fun h k => blockN kN h (blkN p k)) h0N
theorem fold_blocks (K : List Nat) : ∀ (c : Nat) (h p : List Nat), (List.range c).foldl (fun h k => blockN K h (blkN p k)) h = blocksN K c h p
  | 0, h, p => rfl
  | c + 1, h, p => by
    have e1 : blkN p 0 = p.take 64 := by simp [blkN]
    have e2 : ∀ k, blkN p (k + 1) = blkN (p.drop 64) k := fun k => by
      unfold blkN
      rw [List.drop_drop, show 64 + 64 * k = 64 * (k + 1) by omega]
    have ih := fold_blocks K c (blockN K h (p.take 64)) (p.drop 64)
    rw [blocksN]
    generalize blockN K = f at ih ⊢
    rw [List.range_succ_eq_map, List.foldl_cons, List.foldl_map, ← ih]
    simp only [Nat.succ_eq_add_one, e2, e1]
theorem blockN_len (ks h b : List Nat) : (blockN ks h b).length = 8 := by simp [blockN]
theorem blockN_W32 (ks h b : List Nat) : W32 (blockN ks h b) := by
  intro i
  unfold blockN
  rw [getD_map_range]
  split
  · exact Nat.mod_lt _ (by unfold M32; omega)
  · omega
theorem h0N_W32 : W32 h0N := W32_8 (by decide) (by decide) (by decide) (by decide) (by decide) (by decide) (by decide) (by decide)
theorem hashN_ok (p : List Nat) : ∀ (ks : List Nat) (h : List Nat), h.length = 8 → W32 h → (ks.foldl (fun h k => blockN kN h (blkN p k)) h).length = 8 ∧ W32 (ks.foldl (fun h k => blockN kN h (blkN p k)) h)
  | [], h, h1, h2 => ⟨h1, h2⟩
  | k :: ks, h, h1, h2 => hashN_ok p ks _ (blockN_len _ _ _) (blockN_W32 _ _ _)
theorem hashN_len (p ks : List Nat) : (hashN p ks).length = 8 := (hashN_ok p ks h0N rfl h0N_W32).1
theorem hashN_W32 (p ks : List Nat) : W32 (hashN p ks) := (hashN_ok p ks h0N rfl h0N_W32).2
theorem hashN_snoc (p ks : List Nat) (k : Nat) : hashN p (ks ++ [k]) = blockN kN (hashN p ks) (blkN p k) := by simp [hashN]
theorem list8 {l : List Nat} (h : l.length = 8) : ∃ a b c d e f g i, l = [a, b, c, d, e, f, g, i] := by
  match l, h with
  | [a, b, c, d, e, f, g, i], _ => exact ⟨a, b, c, d, e, f, g, i, rfl⟩
theorem kN_len : kN.length = 64 := rfl
theorem kN_W32 : W32 kN := by
  intro i
  by_cases h : i < 64
  · have : ∀ j, j < 64 → kN.getD j 0 < 4294967296 := by decide
    exact this i h
  · rw [List.getD, List.getElem?_eq_none (by rw [kN_len]; omega)]; simp
theorem padN_bytes {l : List Nat} (h : Bytes l) : Bytes (padN l) := by
  have hall : ∀ {m : List Nat}, (∀ x ∈ m, x < 256) → Bytes m := fun {m} hm i => by
    by_cases hi : i < m.length
    · have : m.getD i 0 = m[i] := by simp [List.getD, hi]
      rw [this]
      exact hm _ (List.getElem_mem hi)
    · rw [List.getD, List.getElem?_eq_none (by omega)]; simp
  have hl : ∀ x ∈ l, x < 256 := fun x hx => by
    obtain ⟨i, hi, rfl⟩ := List.getElem_of_mem hx
    have := h i
    simpa [List.getD, hi] using this
  refine hall fun x hx => ?_
  unfold padN at hx
  simp only [List.mem_append, List.mem_cons, List.not_mem_nil, or_false, List.mem_replicate, List.mem_map] at hx
  rcases hx with ((hx | hx) | hx) | ⟨i, -, rfl⟩
  · exact hl x hx
  · omega
  · omega
  · exact Nat.mod_lt _ (by omega)
theorem blkN_get {p : List Nat} {k t : Nat} (ht : t < 64) : (blkN p k).getD t 0 = p.getD (64 * k + t) 0 := by
  simp [blkN, List.getD, List.getElem?_take, List.getElem?_drop, ht]
theorem blkN_bytes {p : List Nat} (h : Bytes p) (k : Nat) : Bytes (blkN p k) := fun t => by
  by_cases ht : t < 64
  · rw [blkN_get ht]; exact h _
  · simp [blkN, List.getD, List.getElem?_take, ht]
end Go.Proofs.Ytnddpgeeoepkkaa

namespace Go.Proofs.Ytnddpgeeoepkkaa
open Go Go.E Go.Proofs Go.RowKit Go.Sort Go.Shelf
attribute [local go_sem] Oper.semAt_some
theorem grown_drewN (w : World) (q : Nat) : w.grownBy (w.drewN q) none := ⟨rfl, rfl, rfl, Nat.le_refl _, fun _ _ _ => rfl⟩
theorem chunk_stops (n : Nat) (hn : 1 ≤ n) (Bs Bn pb c cap : Nat) (hreach : 64 * c ≤ 140737488351232) (hcap : 64 * c ≤ cap) (w : World) (hs : Bs < w.heap.size) (hb : Bn < w.heap.size)
    (hBs : w.cell? ⟨Bs, 0, none⟩ = some (.slice (some ⟨pb, 0, none⟩) (64 * c) cap)) (hBn : w.cell? ⟨Bn, 0, none⟩ = some (.int .i64 64)) :
    SeqStopsK Fence.wide n Try.prog 82 #[.pointer (some ⟨Bs, 0, none⟩), .pointer (some ⟨Bn, 0, none⟩)] (fun x : { k : Nat // k < c } => #[blkV pb x.1]) (KpB Bs Bn) (fun xs => xs.map (·.1) = List.range c) (fun _ => True) c w := fun l J Jx W hW hJ hJx hY h0 => by
  refine (chunk1_in Fence.wide n trivial rfl hn l Bs Bn pb c cap hreach hcap J Jx hY W ((hW.cell (p := ⟨Bs, 0, none⟩) hs).trans hBs) ((hW.cell (p := ⟨Bn, 0, none⟩) hb).trans hBn) h0 (fun s A q h => hJ s A _ none h (grown_drewN A q) (fun r e => by cases e))).mono ?_
  rintro e W' ⟨he, ⟨ys, h1, h2⟩ | ⟨pre, h2⟩⟩
  · exact ⟨he, .inl ⟨ys, h1, h2⟩⟩
  · exact ⟨he, .inr ⟨pre, trivial, h2⟩⟩
/-- what holds between two rounds -/
def InvD (w : World) (p : List Nat) (pb c : Nat) (ks : List Nat) (W : World) : Prop :=
  Holds e32 W w.heap.size 0 (hashN p ks).toArray ∧ W.cell? ⟨w.heap.size + 1 + 1, 0, none⟩ = some (.pointer (some ⟨w.heap.size + 1, 0, none⟩)) ∧
  (∀ t, t < 64 → W.cell? ⟨w.heap.size + 1, 0 + t, none⟩ = some (.int .u32 ((kN.getD t 0 : Nat) : Int))) ∧
  (∀ t, t < 64 * c → W.cell? ⟨pb, t, none⟩ = some (.int .u8 ((p.getD t 0 : Nat) : Int))) ∧ Below w.heap.size w W
theorem InvD.own {w : World} {p : List Nat} {pb c B : Nat} (hB : w.heap.size ≤ B) : OwnFrom B (fun (pre : List { k : Nat // k < c }) W => InvD w p pb c (pre.map (·.1)) W) :=
  fun s A A' row ⟨h1, h2, h3, h4, h5⟩ hg hr =>
    have hr' := fun r e => (hr r e).2
    ⟨own_holds h1 hg hr', cell_kept h2 hg hr', fun t ht => cell_kept (h3 t ht) hg hr', fun t ht => cell_kept (h4 t ht) hg hr', h5.grown hg h5.size (fun k e => Nat.le_trans hB (hr k e).1)⟩
/-- a round -/
theorem InvD.round {w W : World} {p : List Nat} {pb c : Nat} {ks : List Nat} (h : InvD w p pb c ks W) (hpb : w.heap.size + 1 + 1 < pb) {k : Nat} (hk : k < c) (hp : Bytes p) (cap : Nat) :
    Calls Try.prog 75 #[.pointer (some ⟨w.heap.size, 0, none⟩), .slice (some ⟨pb, 64 * k, none⟩) 64 cap, .pointer (some ⟨w.heap.size + 1, 0, none⟩)] W fun e W' => e = .returned (.tuple #[]) ∧
      InvD w p pb c (ks ++ [k]) W' ∧ KeepsOthers W W' ∧ (∀ b, b < W.heap.size → b ≠ w.heap.size → W'.heap[b]? = W.heap[b]?) := by
  obtain ⟨h1, h2, h3, h4, h5⟩ := h
  obtain ⟨a0, a1, a2, a3, a4, a5, a6, a7, hl⟩ := list8 (hashN_len p ks)
  have h32 := hashN_W32 p ks
  have hlt := holds_lt h1 (by rw [hashN_len]; omega)
  have hc : ∀ i, i < 8 → W.cell? ⟨w.heap.size, i, none⟩ = some (.int .u32 (((hashN p ks).getD i 0 : Nat) : Int)) := fun i hi => by
    have := (h1 i (by simpa [hashN_len] using hi)).1
    rw [Nat.zero_add, toArray_get] at this
    exact this
  have hf : ∀ i, i < 8 → W.frozen? ⟨w.heap.size, 0 + i, none⟩ = false := fun i hi => (h1 i (by simpa [hashN_len] using hi)).2
  have hpl : pb < W.heap.size := cell_lt (o := 64 * k) ⟨_, h4 (64 * k) (by omega)⟩
  have hkl : w.heap.size + 1 < W.heap.size := cell_lt (o := 0 + 0) ⟨_, h3 0 (by omega)⟩
  have hk2 : w.heap.size + 1 + 1 < W.heap.size := cell_lt (o := 0) ⟨_, h2⟩
  have hbl : ∀ t, t < 64 → W.cell? ⟨pb, 64 * k + t, none⟩ = some (.int .u8 (((blkN p k).getD t 0 : Nat) : Int)) := fun t ht => by
    rw [blkN_get ht]; exact h4 _ (by omega)
  rw [hl] at hc h32
  refine (block_walk w.heap.size pb (64 * k) cap (w.heap.size + 1) a0 a1 a2 a3 a4 a5 a6 a7 (h32 0) (h32 1) (h32 2) (h32 3) (h32 4) (h32 5) (h32 6) (h32 7) (blkN p k) kN (blkN_bytes hp k) kN_len kN_W32 W hbl hpl h3 hkl
    (hc 0 (by omega)) (hc 1 (by omega)) (hc 2 (by omega)) (hc 3 (by omega)) (hc 4 (by omega)) (hc 5 (by omega)) (hc 6 (by omega)) (hc 7 (by omega)) hf hlt (by omega) (by omega)).mono ?_
  rintro e W' ⟨rfl, q1, q2, v, rfl⟩
  have hX := holds_wAr (a := v) (t := 98) (q := q2) (by rw [wAr_size]; omega) (holds_wAr (a := words (blkN p k)) (t := 110) (q := q1) hlt h1)
  generalize words (blkN p k) = ws at hX ⊢
  have hkb : KeepsOthers W (wAr (wAr W ws 110 q1) v 98 q2) := keeps_wAr.trans keeps_wAr
  have hold : ∀ b o, b < W.heap.size → b ≠ w.heap.size → (putN (wAr (wAr W ws 110 q1) v 98 q2) w.heap.size (blockN kN [a0, a1, a2, a3, a4, a5, a6, a7] (blkN p k))).cell? ⟨b, o, none⟩ = W.cell? ⟨b, o, none⟩ := fun b o hb hne => by
    rw [putN_other hne, wAr_old (by rw [wAr_size]; omega), wAr_old hb]
  have hheap : ∀ b, b < W.heap.size → b ≠ w.heap.size → (putN (wAr (wAr W ws 110 q1) v 98 q2) w.heap.size (blockN kN [a0, a1, a2, a3, a4, a5, a6, a7] (blkN p k))).heap[b]? = W.heap[b]? := fun b hb hne => by
    rw [heap_putN hne, heap_wAr (by rw [wAr_size]; omega), heap_wAr hb]
  refine ⟨rfl, ⟨?_, ?_, ?_, ?_, ?_⟩, hkb.trans (keeps_putN hX (by rw [hashN_len]; omega)), hheap⟩
  · rw [hashN_snoc, hl]
    exact holds_putRow e32 _ _ _ _ _ hX (by simp [hashN_len, blockN_len])
  · rw [hold _ _ hk2 (by omega)]; exact h2
  · intro t ht; rw [hold _ _ hkl (by omega)]; exact h3 t ht
  · intro t ht; rw [hold _ _ hpl (by omega)]; exact h4 t ht
  · have hs := h5.size
    exact ((h5.trans (below_wAr hs)).trans (below_wAr (by rw [wAr_size]; omega))).trans (below_putN (Nat.le_refl _))
end Go.Proofs.Ytnddpgeeoepkkaa

namespace Go.Proofs.Ytnddpgeeoepkkaa
open Go Go.E Go.Proofs Go.RowKit Go.Sort Go.Shelf
attribute [local go_sem] Oper.semAt_some
def wDig (w : World) : World := ((w.alloc (.cells #[.int .u32 1779033703, .int .u32 3144134277, .int .u32 1013904242, .int .u32 2773480762, .int .u32 1359893119, .int .u32 2600822924, .int .u32 528734635, .int .u32 1541459225] 98)).alloc (.cells (kN.map e32).toArray 110)).alloc (.cells #[.pointer (some ⟨w.heap.size + 1, 0, none⟩)] 99)
theorem wDig_below (w : World) : Below w.heap.size w (wDig w) := (((Below.refl _ w).alloc (Nat.le_refl _) _).alloc (by simp) _).alloc (by simp; omega) _
theorem wDig_size (w : World) : (wDig w).heap.size = w.heap.size + 1 + 1 + 1 := by unfold wDig; simp
theorem hN_cells : #[Value.int .u32 1779033703, .int .u32 3144134277, .int .u32 1013904242, .int .u32 2773480762, .int .u32 1359893119, .int .u32 2600822924, .int .u32 528734635, .int .u32 1541459225] = (h0N.map e32).toArray := rfl
theorem wDig_eq (w : World) : wDig w = ((wAr w h0N 98 0).alloc (.cells (kN.map e32).toArray 110)).alloc (.cells #[.pointer (some ⟨w.heap.size + 1, 0, none⟩)] 99) := by
  unfold wDig
  rw [hN_cells, wAr_start]
theorem wDig_blk0 (w : World) : (wDig w).heap[w.heap.size]? = some (.cells (h0N.map e32).toArray 98 (0, 0)) := by
  unfold wDig
  rw [Below.heap_alloc _ _ _ (by simp; omega), Below.heap_alloc _ _ _ (by simp)]
  exact World.alloc_heap_new w _
theorem wDig_blk1 (w : World) : (wDig w).heap[w.heap.size + 1]? = some (.cells (kN.map e32).toArray 110 (0, 0)) := by
  unfold wDig
  rw [Below.heap_alloc _ _ _ (by simp)]
  have := World.alloc_heap_new (w.alloc (.cells #[.int .u32 1779033703, .int .u32 3144134277, .int .u32 1013904242, .int .u32 2773480762, .int .u32 1359893119, .int .u32 2600822924, .int .u32 528734635, .int .u32 1541459225] 98)) (.cells (kN.map e32).toArray 110)
  rw [World.size_alloc] at this
  exact this
theorem wDig_blk2 (w : World) : (wDig w).heap[w.heap.size + 1 + 1]? = some (.cells #[.pointer (some ⟨w.heap.size + 1, 0, none⟩)] 99 (0, 0)) := by
  unfold wDig
  have := World.alloc_heap_new ((w.alloc (.cells #[.int .u32 1779033703, .int .u32 3144134277, .int .u32 1013904242, .int .u32 2773480762, .int .u32 1359893119, .int .u32 2600822924, .int .u32 528734635, .int .u32 1541459225] 98)).alloc (.cells (kN.map e32).toArray 110)) (.cells #[.pointer (some ⟨w.heap.size + 1, 0, none⟩)] 99)
  rw [World.size_alloc, World.size_alloc] at this
  exact this
theorem words_cell {W : World} {b el : Nat} {d : List Nat} (h : W.heap[b]? = some (.cells (d.map e32).toArray el (0, 0))) {i : Nat} (hi : i < d.length) : W.cell? ⟨b, 0 + i, none⟩ = some (.int .u32 ((d.getD i 0 : Nat) : Int)) := by
  unfold World.cell?
  simp only [h]
  simp [hi, List.getD, e32]
theorem words_holds {W : World} {b el : Nat} {d : List Nat} (h : W.heap[b]? = some (.cells (d.map e32).toArray el (0, 0))) : Holds e32 W b 0 d.toArray := fun i hi => by
  rw [toArray_get]
  refine ⟨words_cell h (by simpa using hi), ?_⟩
  unfold World.frozen?
  simp only [h]
  simp
theorem digest_pad (l : List Nat) (hl : l.length ≤ 1073741824) (w : World) (S : Foot) (v : Value) (hv : LeafR w S (.sl [.sc (.int .u8)]) v (.l (nr l))) (hS : ∀ b o, S b o → ∃ v, cellAt w b o = some v) (p : List Nat) (hp : p = padN l) (c : Nat) (hc : (padN l).length = 64 * c) :
    Calls Try.prog 74 #[v] (wDig w) fun e W' => ∃ pb cap, e = .returned (.slice (some ⟨pb, 0, none⟩) (64 * c) cap) ∧ 64 * c ≤ cap ∧ w.heap.size + 1 + 1 < pb ∧ pb < W'.heap.size ∧ InvD w p pb c [] W' := by
  subst hp
  have hk := keeps_below (wDig_below w) S
  have hcell : ∀ b o, S b o → cellAt (wDig w) b o = cellAt w b o := fun b o h => hk.cell h (hS b o h)
  refine (padded_calls l hl (wDig w) S _ (LeafR.mono (fun _ _ h => h) hcell _ hv) (fun b o h => by
    obtain ⟨v, hv⟩ := hS b o h
    exact ⟨v, (hcell b o h).trans hv⟩)).mono ?_
  rintro e W' ⟨pb, cap, rfl, h1, h2, h3, h4, h5⟩
  have hs := wDig_size w
  rw [hc] at h1 h4 ⊢
  have k0 := (h5.block w.heap.size (by omega)).trans (wDig_blk0 w)
  have k1 := (h5.block (w.heap.size + 1) (by omega)).trans (wDig_blk1 w)
  have k2 := (h5.block (w.heap.size + 1 + 1) (by omega)).trans (wDig_blk2 w)
  refine ⟨pb, cap, rfl, h1, by omega, h3, words_holds k0, ?_, fun t ht => words_cell k1 (by rw [kN_len]; exact ht), h4, (wDig_below w).trans (h5.mono (by omega))⟩
  unfold World.cell?
  simp only [k2]
  simp
def encB (x : Nat) : Value := .int .u8 (x : Int)
theorem cells4 (w : World) (a b c d : Value) (t : TypeId) : ∀ j u, [a, b, c, d][j]? = some u → (w.alloc (.cells #[a, b, c, d] t)).cell? ((⟨w.heap.size, 0, none⟩ : Addr).add j) = some u := by
  intro j u hj
  have h := World.alloc_heap_new w (.cells #[a, b, c, d] t)
  have hb : ((⟨w.heap.size, 0, none⟩ : Addr).add j) = ⟨w.heap.size, j, none⟩ := by
    have := addr_add w.heap.size 0 j
    rw [Nat.zero_add] at this
    exact this
  rw [hb]
  unfold World.cell?
  simp only [h]
  simpa using hj
/-- a row of bytes becomes a string -/
theorem conv_row {w : World} {base : Nat} {v : Value} {bs : List Nat} (hb : ∀ x ∈ bs, x < 256) (h : w.ownsRow base 5 1 v bs.length (bs.map encB)) :
    (convert 83 9 v).run Try.prog w = .ok (.string ⟨(bs.map UInt8.ofNat).toArray⟩) w := by
  obtain ⟨hl, ⟨rfl, h0⟩ | ⟨g, cap, cur, rfl, -, hg, hc, -, hsz, ht⟩⟩ := h
  · have : bs = [] := List.length_eq_zero_iff.1 h0
    subst this
    rw [run_convert_bytes_string w 83 9 5 none 0 0 Try.underlying83 Try.underlying5 Try.underlying9]
    simp [Conv.bytesToString, Sem.run_pure, loadCells, loadCellsFrom]
    rfl
  · rw [run_convert_bytes_string w 83 9 5 _ _ _ Try.underlying83 Try.underlying5 Try.underlying9]
    have hlc := run_loadCells_list (P := Try.prog) w ⟨g, 0, none⟩ (bs.map encB) (fun j u hj => by
      have hb2 : ((⟨g, 0, none⟩ : Addr).add j) = ⟨g, j, none⟩ := by
        have := addr_add g 0 j
        rw [Nat.zero_add] at this
        exact this
      rw [hb2]
      unfold World.cell?
      simp only [hg]
      rw [← ht, List.getElem?_take] at hj
      split at hj
      · simpa using hj
      · cases hj)
    have hlc2 : (loadCells ⟨g, 0, none⟩ bs.length).run Try.prog w = .ok ((bs.map (fun x : Nat => (x : Int))).map (Value.int .u8)).toArray w := by
      rw [List.length_map] at hlc
      rw [hlc, List.map_map]
      rfl
    rw [run_bytesToString w ⟨g, 0, none⟩ bs.length cap (bs.map fun x : Nat => (x : Int)) hlc2]
    have hf : ∀ (l : List Nat) (acc : ByteArray), (l.map (fun x : Nat => (x : Int))).foldl (fun r n => r.push (UInt8.ofNat n.toNat)) acc = ⟨acc.data ++ (l.map UInt8.ofNat).toArray⟩ := by
      intro l
      induction l with
      | nil => intro acc; simp
      | cons x l ih =>
        intro acc
        rw [List.map_cons, List.foldl_cons, ih]
        simp [ByteArray.push]
    rw [hf]
    simp
theorem info5 : (Try.prog.info? 5).map (fun i => (i.zero, i.size, i.bytes)) = some (some (.int .u8 0), 1, 1) := by kernel_rfl
def outB (h : List Nat) (i : Nat) : List Nat := (h.take i).flatMap fun x => [x / 2 ^ 24 % 256, x / 2 ^ 16 % 256, x / 2 ^ 8 % 256, x % 256]
theorem outB_succ {h : List Nat} {i : Nat} (hi : i < h.length) : (outB h (i + 1)) = outB h i ++ [h.getD i 0 / 2 ^ 24 % 256, h.getD i 0 / 2 ^ 16 % 256, h.getD i 0 / 2 ^ 8 % 256, h.getD i 0 % 256] := by
  unfold outB
  rw [List.take_add_one, List.flatMap_append]
  simp [List.getElem?_eq_getElem hi, List.getD]
set_option maxRecDepth 1000000 in
set_option maxHeartbeats 8000000 in
theorem digest_in (l : List Nat) (hl : l.length ≤ 1073741824) (hB : Bytes l) (w : World) (S : Foot) (aa : Option Addr) (len cap : Nat) (hv : LeafR w S (.sl [.sc (.int .u8)]) (.slice aa len cap) (.l (nr l))) (hS : ∀ b o, S b o → ∃ v, cellAt w b o = some v) :
    CallsIn Fence.wide 8 Try.prog 60 #[.slice aa len cap] w fun e W' => e = .returned (.string ⟨((digestN l).map UInt8.ofNat).toArray⟩) ∧ Below w.heap.size w W' := by
  obtain ⟨c, hc1, hc⟩ := padN_len l
  obtain ⟨p, hp⟩ : ∃ p, p = padN l := ⟨_, rfl⟩
  have hpd := digest_pad l hl w S _ hv hS p hp c hc
  have hcl : 64 * c ≤ 2147483648 := by rw [← hc]; unfold padN; simp; omega
  have hpB : Bytes p := by rw [hp]; exact padN_bytes hB
  have HDG : Hid (digestN l = (blocksN kN c h0N p).flatMap fun x => [x / 2 ^ 24 % 256, x / 2 ^ 16 % 256, x / 2 ^ 8 % 256, x % 256]) := (by
    unfold digestN
    rw [hc, ← hp, Nat.mul_div_cancel_left c (by omega)] : digestN l = (blocksN kN c h0N p).flatMap fun x => [x / 2 ^ 24 % 256, x / 2 ^ 16 % 256, x / 2 ^ 8 % 256, x % 256])
  clear hv hS hp hc hB
  obtain ⟨dg, hdg⟩ : ∃ dg, dg = digestN l := ⟨_, rfl⟩
  have HDG2 : Hid (dg = digestN l) := hdg
  rw [← hdg]
  clear hdg
  refine callsIn_of_wp_marks Try.func60 rfl trivial ?_ rfl
  simp only [Try.ntmps60, List.size_toArray, List.length_cons, List.length_nil, Nat.reduceAdd, Nat.reduceSub, Array.replicate_succ, Array.replicate_zero, List.push_toArray, List.append_toArray, List.nil_append, List.cons_append]
  unfold wDig at hpd
  gi_wp2_with (first
    | (refine ⟨trivial, ?_⟩; gi_at_call 72; refine (callsIn_wide.2 (rounds_walk _)).mono ?_; rintro _ _ ⟨rfl, rfl⟩)
    | (refine ⟨trivial, ?_⟩; gi_at_call 74; refine (callsIn_wide.2 hpd).mono ?_; clear hpd; rintro _ W1 ⟨pb, pcap, rfl, q1, q2, q3, q4⟩)
    | (refine ⟨trivial, ?_⟩; gi_at_call 73; refine (chunk_in Fence.wide _ trivial rfl _ _ _ _).mono ?_; rintro _ _ ⟨rfl, rfl⟩))
  obtain ⟨Wr, hWr⟩ : ∃ Wr, Wr = (W1.alloc (.cells #[.slice (some ⟨pb, 0, none⟩) (64 * c) pcap] 83)).alloc (.cells #[.int .i64 64] 3) := ⟨_, rfl⟩
  rw [← hWr]
  have hsr : Wr.heap.size = W1.heap.size + 2 := by rw [hWr]; simp
  have hbs : Wr.cell? ⟨W1.heap.size, 0, none⟩ = some (.slice (some ⟨pb, 0, none⟩) (64 * c) pcap) := by
    unfold World.cell?
    have : Wr.heap[W1.heap.size]? = some (.cells #[.slice (some ⟨pb, 0, none⟩) (64 * c) pcap] 83 (0, 0)) := by
      rw [hWr, Below.heap_alloc _ _ _ (by simp)]
      exact World.alloc_heap_new W1 _
    simp only [this]
    simp
  have hbn : Wr.cell? ⟨W1.heap.size + 1, 0, none⟩ = some (.int .i64 64) := by
    unfold World.cell?
    have : Wr.heap[W1.heap.size + 1]? = some (.cells #[.int .i64 64] 3 (0, 0)) := by
      rw [hWr]
      have := World.alloc_heap_new (W1.alloc (.cells #[.slice (some ⟨pb, 0, none⟩) (64 * c) pcap] 83)) (.cells #[.int .i64 64] 3)
      rw [World.size_alloc] at this
      exact this
    simp only [this]
    simp
  have hbw : Below W1.heap.size W1 Wr := by rw [hWr]; exact ((Below.refl _ W1).alloc (Nat.le_refl _) _).alloc (by simp) _
  have hws := q4.2.2.2.2.size
  have hI0 : InvD w p pb c [] Wr := InvD.own (c := c) (B := W1.heap.size) hws [] W1 Wr none q4 ⟨hbw.os, hbw.tape, hbw.output, hbw.size, fun k hk _ => hbw.block k hk⟩ (fun r e => by cases e)
  clear hWr hbw q4
  refine wpIn_rangeFunc_ownF rfl (by omega) (gf := 82) (lb := #[.pointer (some ⟨W1.heap.size, 0, none⟩), .pointer (some ⟨W1.heap.size + 1, 0, none⟩)]) rfl trivial (enters_of Try.func82 (by kernel_rfl) rfl)
    (chunk_stops _ (by omega) W1.heap.size (W1.heap.size + 1) pb c pcap (by omega) q1 Wr (by omega) (by omega) hbs hbn) KpB.t
    (fun W l o o' h1 h2 _ _ => ⟨World.putObj_heap_other (by omega), World.putObj_heap_other (by omega)⟩) (Below.refl _ _) (fun _ => rfl)
    (fun pre W => InvD w p pb c (pre.map (·.1)) W ∧ Wr.heap.size ≤ W.heap.size) (fun _ _ _ => False) (OwnFrom.and (InvD.own (by omega)) (fun _ _ _ _ hs hg _ => Nat.le_trans hs hg.size)) (fun _ _ _ _ _ hs _ _ => hs) ⟨hI0, Nat.le_refl _⟩
    (fun x => { tmps := List.toArray ((.slice aa len cap : Value) :: (undef : Value) :: (.string ⟨#[]⟩ : Value) :: (.pointer (some ⟨w.heap.size, 0, none⟩) : Value) :: (.pointer (some ⟨w.heap.size + 1 + 1, 0, none⟩) : Value) :: (blkV pb x.1 : Value) :: (undef : Value) :: (undef : Value) :: (undef : Value) :: (.agg #[.int .u32 1779033703, .int .u32 3144134277, .int .u32 1013904242, .int .u32 2773480762, .int .u32 1359893119, .int .u32 2600822924, .int .u32 528734635, .int .u32 1541459225] : Value) :: (.pointer (some ⟨w.heap.size + 1, 0, none⟩) : Value) :: (.slice aa len cap : Value) :: (.slice (some ⟨pb, 0, none⟩) (64 * c) pcap : Value) :: (.func (.func 82) #[] #[.pointer (some ⟨W1.heap.size, 0, none⟩), .pointer (some ⟨W1.heap.size + 1, 0, none⟩)] : Value) :: (blkV pb x.1 : Value) :: (undef : Value) :: (undef : Value) :: (undef : Value) :: (undef : Value) :: (undef : Value) :: (undef : Value) :: (undef : Value) :: (undef : Value) :: (undef : Value) :: (undef : Value) :: (undef : Value) :: (undef : Value) :: (undef : Value) :: (undef : Value) :: (undef : Value) :: (undef : Value) :: (undef : Value) :: (undef : Value) :: (undef : Value) :: (undef : Value) :: (undef : Value) :: (undef : Value) :: (undef : Value) :: (undef : Value) :: []), defers := [] }) ?assign ?body ?done ?stop
  case assign =>
    intro l x W K hK
    gi_wp2
    exact hK
  case body =>
    rintro l pre x W ⟨hI, hsz⟩ _
    have hld := hI.2.1
    have hr := hI.round q2 x.2 hpB 64
    have HI : Hid (InvD w p pb c (pre.map (·.1)) W) := hI
    clear hI
    unfold blkV
    gi_wp2_with (refine ⟨trivial, ?_⟩; gi_at_call 75; refine (CallsIn.inRound l (callsIn_wide.2 hr)).mono ?_; rintro _ W' ⟨rfl, hI', hK', hH'⟩)
    exact ⟨hK', ⟨hH' _ (by omega) (by omega), hH' _ (by omega) (by omega)⟩, by rw [List.map_append]; exact hI', Nat.le_trans hsz hK'.size⟩
  case done =>
    rintro D ys W hD hys ⟨hI, hsz⟩ hK
    obtain ⟨hH, -, -, -, hB⟩ := hI
    have hhe : hashN p (ys.map (·.1)) = blocksN kN c h0N p := by rw [hys]; exact fold_blocks kN c h0N p
    have h32 := hashN_W32 p (ys.map (·.1))
    obtain ⟨a0, a1, a2, a3, a4, a5, a6, a7, hl8⟩ := list8 (hashN_len p (ys.map (·.1)))
    have hcl : ∀ i, i < 8 → W.cell? ⟨w.heap.size, i, none⟩ = some (.int .u32 (((hashN p (ys.map (·.1))).getD i 0 : Nat) : Int)) := fun i hi => by
      have := (hH i (by simpa [hashN_len] using hi)).1
      rw [Nat.zero_add, toArray_get] at this
      exact this
    rw [hl8] at hhe h32 hcl
    have g0 := hcl 0 (by omega)
    have g1 := hcl 1 (by omega)
    have g2 := hcl 2 (by omega)
    have g3 := hcl 3 (by omega)
    have g4 := hcl 4 (by omega)
    have g5 := hcl 5 (by omega)
    have g6 := hcl 6 (by omega)
    have g7 := hcl 7 (by omega)
    simp only [List.getD_cons_zero, List.getD_cons_succ] at g0 g1 g2 g3 g4 g5 g6 g7
    have HE : Hid ([a0, a1, a2, a3, a4, a5, a6, a7] = blocksN kN c h0N p) := hhe
    clear hH hcl hhe hl8 hys hI0
    obtain ⟨i0, hi, hz0, hz1, hz2⟩ := info_parts info5
    gi_wp2
    gi_loopw [6, 19] (fun v6 vi wr => ∃ i : Nat, vi = .int .i64 i ∧ i ≤ 8 ∧ wr.ownsRow W.heap.size 5 1 v6 (4 * i) ((outB [a0, a1, a2, a3, a4, a5, a6, a7] i).map encB) ∧ Below w.heap.size w wr ∧ wr.heap[D]? = some (.deferred (some [])) ∧ W.heap.size ≤ wr.heap.size)
      (fun _ vi _ => 8 - (intOf vi).toNat)
    case atStart => exact ⟨0, rfl, by omega, ⟨rfl, .inl ⟨rfl, rfl⟩⟩, hB, hK, Nat.le_refl _⟩
    case round =>
      obtain ⟨i, rfl, hi8, hown, hB1, hK1, hsz1⟩ := hrel
      have hix : i < 8 → ∀ w, (Instr.index 98 (.agg #[.int .u32 a0, .int .u32 a1, .int .u32 a2, .int .u32 a3, .int .u32 a4, .int .u32 a5, .int .u32 a6, .int .u32 a7]) (.int .i64 (i : Int))).run Try.prog w = .ok (.int .u32 (([a0, a1, a2, a3, a4, a5, a6, a7].getD i 0 : Nat) : Int)) w := fun h w => by
        rcases (by omega : i = 0 ∨ i = 1 ∨ i = 2 ∨ i = 3 ∨ i = 4 ∨ i = 5 ∨ i = 6 ∨ i = 7) with rfl | rfl | rfl | rfl | rfl | rfl | rfl | rfl <;> kernel_rfl
      obtain ⟨x, hx⟩ : ∃ x, x = [a0, a1, a2, a3, a4, a5, a6, a7].getD i 0 := ⟨_, rfl⟩
      rw [← hx] at hix
      have HX : Hid (x = [a0, a1, a2, a3, a4, a5, a6, a7].getD i 0) := hx
      clear hx
      by_cases hlt : i < 8
      · have hix' := hix hlt
        have hm1 : 4 * i + 4 ≤ maxLen := by unfold maxLen; omega
        gi_wp2_with (gi_at_builtin; refine wpListIn_append_own _ rfl _ _ 83 rfl W.heap.size 5 i0 (.int .u8 0) 1 1 Try.underlying83 hi hz0 hz1 hz2 rfl (by decide) _ _ _ rfl (hown.alloc _) ⟨wr.heap.size, 0, none⟩ 4 4 [.int .u8 ((x : Int) / 16777216 % 256), .int .u8 ((x : Int) / 65536 % 256), .int .u8 ((x : Int) / 256 % 256), .int .u8 ((x : Int) % 256)] rfl rfl (cells4 _ _ _ _ _ _) (by simp [Value.oneCell']) hm1 (by omega) (by simp; omega) ?_; intro v' w1 hown' hgrow _)
        have hob : ∀ k, u6.ownBlock = some k → W.heap.size ≤ k ∧ ∃ cs, wr.heap[k]? = some (.cells cs 5 (0, 0)) := fun k hk => by
          obtain ⟨-, ⟨rfl, -⟩ | ⟨g, cap, cur, rfl, hg1, hg2, -⟩⟩ := hown
          · cases hk
          · cases hk; exact ⟨hg1, _, hg2⟩
        have hDl : D < wr.heap.size := (Array.getElem?_eq_some_iff.1 hK1).1
        refine ⟨⟨i + 1, by simp, by omega, ?_, ?_, ?_, ?_⟩, by simp [intOf]; omega⟩
        · have e1 := outB_succ (h := [a0, a1, a2, a3, a4, a5, a6, a7]) (i := i) hlt
          rw [← HX.out] at e1
          rw [e1, List.map_append, show 4 * (i + 1) = 4 * i + 4 by omega]
          exact hown'
        · exact (hB1.alloc hB1.size _).grown hgrow (by simp; have := hB1.size; omega) (fun k e => by have := (hob k e).1; have := hB.size; omega)
        · refine (hgrow.block D (by simp; omega) (fun e => ?_)).trans ((Below.heap_alloc _ _ _ hDl).trans hK1)
          obtain ⟨-, cs, h⟩ := hob D e.symm
          rw [hK1] at h
          cases h
        · have := hgrow.size
          simp at this
          omega
      · have h8 : i = 8 := by omega
        subst h8
        have hdg : dg = outB [a0, a1, a2, a3, a4, a5, a6, a7] 8 := by
          rw [HDG2.out, HDG.out, ← HE.out]
          rfl
        have hlen : dg.length = 4 * 8 := by rw [hdg]; rfl
        rw [← hdg, ← hlen] at hown
        have hcv := conv_row (fun x hx => by
          rw [hdg] at hx
          unfold outB at hx
          simp only [List.mem_flatMap] at hx
          obtain ⟨y, -, hx⟩ := hx
          simp only [List.mem_cons, List.not_mem_nil, or_false] at hx
          omega) hown
        clear hdg hlen
        gi_wp2
        refine ⟨by simp, .inl ⟨_, _, rfl, run_takeDeferred hK1, ?_⟩⟩
        exact ⟨_, results_tmp rfl _ _ _, rfl, hB1.trans (belowK_b (w := w) (Nat.le_refl _) wr D _ _ (by omega) hK1 rfl rfl)⟩
  case stop =>
    rintro D c pre W _ _ h _
    exact h.elim
theorem u8_rows {w : World} {S : Foot} : ∀ {rows : List (List T)} {b o : Nat}, (∀ i (h : i < rows.length), RowR w S S [.sc (.int .u8)] b (o + i * 1) rows[i]) → ∃ l : List Nat, rows = nr l ∧ Bytes l ∧ ∀ i, i < l.length → ∃ v, S b (o + i) ∧ cellAt w b (o + i) = some v
  | [], b, o, h => ⟨[], rfl, fun i => by simp, fun i hi => by cases hi⟩
  | r :: rows, b, o, h => by
    have h0 := h 0 (by simp)
    simp only [List.getElem_cons_zero, Nat.zero_mul, Nat.add_zero] at h0
    unfold RowR at h0
    obtain ⟨d, rest, v, rfl, hs, hc, hlf, hr⟩ := h0
    unfold RowR at hr
    subst hr
    unfold LeafR at hlf
    obtain ⟨n, rfl, rfl, h1, h2⟩ := hlf
    have hn0 : 0 ≤ n := h1
    have hn1 : n ≤ 255 := h2
    obtain ⟨l, rfl, hb, hl⟩ := u8_rows (b := b) (o := o + 1) (rows := rows) fun i hi => by
      have := h (i + 1) (by simpa using hi)
      simpa [show o + (i + 1) = o + 1 + i from by omega] using this
    refine ⟨n.toNat :: l, ?_, ?_, ?_⟩
    · have : n = ((n.toNat : Nat) : Int) := by omega
      rw [this]; rfl
    · intro i
      cases i with
      | zero => show n.toNat < 256; omega
      | succ i => exact hb i
    · intro i hi
      cases i with
      | zero => exact ⟨_, hs, hc⟩
      | succ i =>
        obtain ⟨v, h1, h2⟩ := hl i (by simpa using hi)
        rw [show o + (i + 1) = o + 1 + i from by omega]
        exact ⟨v, h1, h2⟩
theorem digestB_nr (l : List Nat) : digestB (nr l) = ⟨((digestN l).map UInt8.ofNat).toArray⟩ := by
  unfold digestB
  have : (nr l).map (fun r => (r.getD 0 dflt).int.toNat) = l := by
    unfold nr
    rw [List.map_map]
    exact List.map_id _
  rw [this]
theorem primDigest_ok {args : List Arg} (h : primDigest args ≠ .bad) : FnOk Try.prog 60 args (primDigest args) := by
  have key : ∀ (es : List LT) (rows : List (List T)) (out : ByteArray), (es = [.sc (.int .u8)] ∧ rows.length ≤ 1073741824 ∧ out = digestB rows ∨ rows = [] ∧ out = digestB []) →
      FnOk Try.prog 60 [.one (.dz es rows)] (.ok ⟨[.one (.sc .str (.s out))], [[none]], []⟩) := by
    intro es rows out hcase g0 I A w vs hp
    have hrel := hp.rel
    obtain ⟨v, rfl, hv⟩ : ∃ v, vs = #[v] ∧ LeafR w (ID g0 I) (.sl es) v (.l rows) := by
      match hl : vs.toList, hrel with
      | [v], hrel => exact ⟨v, Array.toList_inj.1 (by simpa using hl), hrel.1⟩
      | [], hrel => exact hrel.elim
      | _ :: _ :: _, hrel => exact hrel.2.elim
    unfold LeafR at hv
    obtain ⟨a, cap, rows', e1, rfl, hcap, hmax, hrows⟩ := hv
    cases e1
    have fin : ∀ (l : List Nat) (hl : l.length ≤ 1073741824) (hb : Bytes l) (S : Foot) (hlen : rows.length = l.length) (hv : LeafR w S (.sl [.sc (.int .u8)]) (.slice a rows.length cap) (.l (nr l))) (hS : ∀ b o, S b o → ∃ v, cellAt w b o = some v) (ho : out = digestB (nr l)),
        Calls Try.prog 60 #[.slice a rows.length cap] w fun
          | .returned v, w' => ∃ ret g' I', R3.ok (⟨[.one (.sc .str (.s out))], [[none]], []⟩ : Ret) = .ok ret ∧ RetR g0 I A [.one (.dz es rows)] w ret g' I' w' v
          | .panicked _, _ => False
          | .outgrown, _ => False := by
      intro l hl hb S hlen hv hS ho
      refine (callsIn_wide.1 (digest_in l hl hb w S a rows.length cap hv hS)).mono ?_
      rintro e w' ⟨rfl, hbel⟩
      refine ⟨_, g0, I, rfl, ret_plain hp hbel ⟨fun _ h => (nomatch h), fun _ h => (nomatch h)⟩ (fun g' => ⟨_, rfl, ?_, ?_⟩) rfl fun i j => ?_⟩
      · rw [ho, digestB_nr]
      · have : (digestN l).length = 32 := by
          unfold digestN
          have h8 : (blocksN kN ((padN l).length / 64) h0N (padN l)).length = 8 := by
            rw [← fold_blocks]
            exact (hashN_ok (padN l) _ h0N rfl h0N_W32).1
          generalize blocksN kN ((padN l).length / 64) h0N (padN l) = z at h8
          obtain ⟨b0, b1, b2, b3, b4, b5, b6, b7, rfl⟩ := list8 h8
          rfl
        simp [ByteArray.size, this]
      · unfold ownOf
        match i, j with
        | 0, 0 => rfl
        | 0, j + 1 => rfl
        | i + 1, j => rfl
    rcases hcase with ⟨rfl, hlen, rfl⟩ | ⟨rfl, rfl⟩
    · rcases hrows with rfl | ⟨b, o, rfl, hr⟩
      · exact fin [] (by simp) (fun i => by simp) (fun _ _ => False) rfl (by unfold LeafR; exact ⟨a, cap, [], rfl, rfl, hcap, hmax, .inl rfl⟩) (fun _ _ h => h.elim) rfl
      · obtain ⟨l, rfl, hb, hcells⟩ := u8_rows hr
        have hlen2 := hlen
        rw [nr_len] at hlen2
        refine fin l hlen2 hb (fun b' o' => b' = b ∧ o ≤ o' ∧ o' < o + l.length) (nr_len l) ?_ (fun b' o' h => ?_) rfl
        · unfold LeafR
          refine ⟨_, cap, nr l, rfl, rfl, hcap, hmax, .inr ⟨b, o, rfl, fun i hi => ?_⟩⟩
          have h1 := hr i hi
          rw [nr_len] at hi
          unfold RowR at h1 ⊢
          obtain ⟨d, rest, v, e1, -, hc, hlf, hrest⟩ := h1
          unfold RowR at hrest ⊢
          unfold LeafR at hlf ⊢
          exact ⟨d, rest, v, e1, ⟨rfl, by simp, by simp; omega⟩, hc, hlf, hrest⟩
        · obtain ⟨rfl, h1, h2⟩ := h
          obtain ⟨v, -, h3⟩ := hcells (o' - o) (by omega)
          rw [show o + (o' - o) = o' by omega] at h3
          exact ⟨v, h3⟩
    · exact fin [] (by simp) (fun i => by simp) (fun _ _ => False) rfl (by unfold LeafR; exact ⟨a, cap, [], rfl, rfl, hcap, hmax, .inl rfl⟩) (fun _ _ h => h.elim) rfl
  unfold primDigest at h ⊢
  split at h
  · rename_i rows
    cases hc : decide (rows.length ≤ 1073741824) with
    | false => rw [hc] at h; exact absurd rfl h
    | true => exact key _ rows _ (.inl ⟨rfl, of_decide_eq_true hc, rfl⟩)
  · rename_i rows
    cases hc : rows.isEmpty with
    | false => rw [hc] at h; exact absurd rfl h
    | true =>
      have := List.isEmpty_iff.1 hc
      exact key _ rows _ (.inr ⟨this, rfl⟩)
  · exact absurd rfl h
end Go.Proofs.Ytnddpgeeoepkkaa

