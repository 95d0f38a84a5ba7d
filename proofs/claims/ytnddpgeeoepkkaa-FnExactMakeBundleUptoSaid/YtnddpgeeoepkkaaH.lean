/- A part of the proof: texts EPrim6, EDig, S8H, S8N: see the last part's opening words. -/
import Derived.Test.YtnddpgeeoepkkaaE3
import Derived.Shelf.SlicesE.Clone
import Derived.Test.YtnddpgeeoepkkaaProg
set_option linter.unusedVariables false
set_option linter.unusedSimpArgs false
set_option linter.unnecessarySimpa false
namespace Go.Proofs
open Go Go.Shelf Go.RowKit Go.Lib
variable {P : Program} {ρ : Ren}
set_option maxHeartbeats 2000000 in
set_option maxRecDepth 100000 in
/-- slices.Clone of no rows, wherever they lie -/
theorem clone_zero (L : SlLaysE0.n41 P ρ) (i0 : TypeInfo) (z : Value) (size bytes : Nat) (hi : P.info? (ρ.t 23) = some i0) (hz0 : i0.zero = some z) (hz1 : i0.size = size) (hz2 : i0.bytes = bytes) (hzs : z.cells.size = size) (hsz : 0 < size)
    (z23 : ∀ w, (Go.sizeOf (ρ.t 23)).run P w = .ok size w) (ad : Addr) (c : Nat) (w : World) :
    Calls P (ρ.f 41) #[.slice (some ad) 0 c] w fun e w' => ∃ v', e = .returned v' ∧ w'.ownsRow w.heap.size (ρ.t 23) size v' 0 [] ∧ Below w.heap.size w w' := by
  have mixed := L.mixed; have t4 := L.t4; have a4 := L.a4; have z4 := L.z4; have v4 := L.v4; have t22 := L.t22; have a22 := L.a22; have z22 := L.z22; have v22 := L.v22
  have q22 : ∀ (w : World) (a : Option Addr) (n c n' c' : Nat), (binOp .eql (ρ.t 22) (.slice a n c) (.slice none n' c')).run P w = .ok (.bool a.isNone) w := fun w a n c n' c' => Lib.run_eql_slice_nil w _ _ a n c n' c' L.t22
  have u22 : ∀ w, Sem.run P (underlying (ρ.t 22)) w = .ok (TypeDesc.slice (ρ.t 23)) w := run_underlying t22
  obtain ⟨_, _, FG⟩ := L.f41
  go_enter FG, SlBodyN.n41_ntmps ρ
  go_wp2_with (at_builtin; refine wpList_append_own _ rfl _ _ (ρ.t 22) rfl w.heap.size (ρ.t 23) i0 z size bytes t22 hi hz0 hz1 hz2 hzs hsz _ _ _ rfl (World.ownsRow_made w #[] 0 (Nat.le_refl _) (Nat.zero_le _) (by simp)) ad 0 c [] rfl ?qc1 ?qc2 ?qc3 ?qc4 ?qc5 ?qc6 ?_)
  case qc1 => simp
  case qc2 => intro j u hj; simp at hj
  case qc3 => intro u hu; cases hu
  case qc4 => simp
  case qc5 => simp
  case qc6 => simp
  intro v' w1 hown hgrow hnil
  go_wp2
  go_ret
  refine ⟨v', rfl, by simpa using hown, ?_⟩
  exact ((Below.refl _ w).alloc (Nat.le_refl _) _).grown hgrow (by simp) (by intro k hk; simp [Value.ownBlock] at hk; omega)
end Go.Proofs
namespace Go.E
open Go Go.Shelf Go.Proofs Go.RowKit
section
variable {g0 : Gh} {I A : Foot} {w w' : World} {vs : Array Value} {es : List LT} {ms : List M} {rows : List (List T)}
/-- a contract that hands back a new chunk -/
theorem ret_new {args : List Arg} {h : Value} {F : Foot} (hp : Pre g0 I A args w vs) (hb : Below w.heap.size w w') (hrow : RowOwn w' I es ms rows h F) (hF : ∀ b o, F b o → w.heap.size ≤ b) (hs : Single h) :
    RetR g0 I A args w ⟨[.one (.own [7000000] es ms rows)], [[none]], []⟩ (g0.set [7000000] h F) I w' h := by
  have hno : ∀ {i j : Nat} {x : List LT × List M × List (List T)}, ownOf ⟨[.one (.own [7000000] es ms rows)], [[none]], []⟩ i j ≠ some x := by
    intro i j x
    match i, j with
    | 0, 0 => simp [ownOf]
    | 0, j + 1 => simp [ownOf]
    | i + 1, j => simp [ownOf]
  have hk1 := keeps_below hb (fun _ _ => True)
  refine ⟨⟨[h], rfl, ⟨hs, ?_⟩, trivial⟩, fun i j es1 ms1 rows1 h => absurd h hno, fun i ls h => by simp [bxOf] at h, by simp [retKeys, keysOfR], fun k hk i j hij => ?_, fun k k' h h' hne => absurd ((take1_out h).trans (take1_out h').symm) hne, fun k h => ?_, fun k h => ?_, fun _ _ h => h, fun _ _ h _ => h, fun b o hi => ?_, hk1.weaken fun _ _ _ => trivial⟩
  · exact ⟨by rw [Gh.set_h], by rw [Gh.set_F]; exact hrow⟩
  · rcases hij with ⟨y, h⟩ | ⟨-, ls, h⟩
    · exact absurd h hno
    · simp [bxOf] at h
  · rw [take1_out h, Gh.set_F]
    intro b o hf hi
    have := cell_lt (hp.iwf b o hi)
    have := hF b o hf
    omega
  · rw [take1_out h, Gh.set_F]
    intro b o hf hi
    have := cell_lt (hp.awf b o hi)
    have := hF b o hf
    omega
  · obtain ⟨v, hv⟩ := hp.iwf b o hi
    exact ⟨v, (hk1.cell trivial ⟨v, hv⟩).trans hv⟩
/-- rows that a call has made -/
theorem own_made {S : Foot} {el : TypeId} {v : Value} {news : List Value} {base : Nat} (hes : es ≠ []) (hm : noO ms) (hmax : rows.length ≤ maxCells) (hr : RowsV w' I es rows news) (ho : w'.ownsRow base el es.length v rows.length news) :
    ∃ F, RowOwn w' I es ms rows v F ∧ (∀ b o, F b o → base ≤ b) ∧ Single v := by
  obtain ⟨hl, ⟨rfl, h0⟩ | ⟨g, cap, cur, rfl, hb, hg, hc, -, hsz, ht⟩⟩ := ho
  · have : rows = [] := List.length_eq_zero_iff.1 h0
    subst this
    exact ⟨fun _ _ => False, RowOwn.nil hes fun _ _ h => h, fun _ _ h => h.elim, ⟨fun _ h => (nomatch h), fun _ h => (nomatch h)⟩⟩
  · refine ⟨fun b o => b = g ∧ o < cur.size, RowOwn.mk' (bs := []) hes hmax hc hg hsz (fun o ho => by omega) ?_ ⟨fun h => (nomatch h), trivial⟩ (fun b' o' => ⟨.inl, fun h => h.elim (fun h => h) fun h => (nomatch h.1)⟩), fun b o h => h.1 ▸ hb, ⟨fun _ h => (nomatch h), fun _ h => (nomatch h)⟩⟩
    refine RowsOf.cells (hr.toM hm) ?_
    rw [← hl, List.take_length, hl]; exact ht
end
def primClone (es : List LT) : List Arg → R3 Ret
  | [.one (.dz es' rows)] => cond (LT.beqs es es' && flatLs es && Nat.ble es.length 1000) (cond (decide (rows.length * es.length ≤ maxRow)) (.ok ⟨[.one (.own [7000000] es (es.map fun _ => .F) rows)], [[none]], []⟩) .bad) .bad
  | [.one (.fz es' rows)] => cond (LT.beqs es es' && flatLs es && Nat.ble es.length 1000) (cond (decide (rows.length * es.length ≤ maxRow)) (.ok ⟨[.one (.own [7000000] es (es.map fun _ => .F) rows)], [[none]], []⟩) .bad) .bad
  | _ => .bad
theorem zeroVs_len : ∀ {lts : List LT} {vs : List Value}, zeroVs lts vs → vs.length = lts.length
  | [], [], _ => rfl
  | _ :: _, _ :: _, h => by simp [zeroVs_len h.2]
  | [], _ :: _, h => h.elim
  | _ :: _, [], h => h.elim
theorem primClone_ok {Γ : Ctx} {P : Program} {ρ : Shelf.Ren} (hΓ : CtxOk Γ P) (L : SlLaysE0.n41 P ρ) {te : TI} (hte : Γ.ty (ρ.t 23) = some te) (hne : te.lts ≠ []) {args : List Arg} (h : primClone te.lts args ≠ .bad) : FnOk P (ρ.f 41) args (primClone te.lts args) := by
  have htok := hΓ.ty _ _ hte
  obtain ⟨i0, hi1, hi2, hi3, hi4, hi5, z, hz, hzs⟩ := htok.info
  have hzl := zeroVs_len hzs
  have key : ∀ (S : Foot) (arg : Arg) (rows : List (List T)) (g0 : Gh) (I A : Foot) (w : World) (vs : Array Value), Pre g0 I A [arg] w vs → (∀ v, ArgR g0 w I 0 arg v → LeafR w S (.sl te.lts) v (.l rows)) →
      flatLs te.lts = true → te.lts.length ≤ 1000 → rows.length * te.lts.length ≤ maxRow →
      Calls P (ρ.f 41) vs w fun
        | .returned v, w' => ∃ ret g' I', R3.ok (⟨[.one (.own [7000000] te.lts (te.lts.map fun _ => .F) rows)], [[none]], []⟩ : Ret) = .ok ret ∧ RetR g0 I A [arg] w ret g' I' w' v
        | .panicked _, _ => False
        | .outgrown, _ => False := by
    intro S arg rows g0 I A w vs hp hv hf hle hmr
    obtain ⟨v, rfl, hav⟩ : ∃ v, vs = #[v] ∧ ArgR g0 w I 0 arg v := by
      have hrel := hp.rel
      match hl : vs.toList, hrel with
      | [v], hrel => exact ⟨v, Array.toList_inj.1 (by simpa using hl), hrel.1⟩
      | [], hrel => exact hrel.elim
      | _ :: _ :: _, hrel => exact hrel.2.elim
    obtain ⟨aa, cap, news, rfl, hcap, hmax, hnl, hrv, hplace⟩ := leaf_cells (hv v hav)
    have hone : ∀ u ∈ news, u.oneCell' = true := fun u hu => (hrv.single hnl u hu).one
    have hpos : 0 < te.lts.length := List.length_pos_iff.2 hne
    have fin : ∀ (v' : Value) (w' : World), w'.ownsRow w.heap.size (ρ.t 23) te.lts.length v' rows.length news → Below w.heap.size w w' →
        ∃ ret g' I', R3.ok (⟨[.one (.own [7000000] te.lts (te.lts.map fun _ => .F) rows)], [[none]], []⟩ : Ret) = .ok ret ∧ RetR g0 I A [arg] w ret g' I' w' v' := by
      intro v' w' ho hb
      obtain ⟨F, h1, h2, h3⟩ := own_made (I := I) (S := S) hne (noO_F te.lts) hmax (hrv.flat hf) ho
      exact ⟨_, _, _, rfl, ret_new hp hb h1 h2 h3⟩
    cases aa with
    | none =>
      refine (AnyE.slices_Clone_nil L rows.length cap w).mono fun e w' ⟨he, hw⟩ => ?_
      subst he hw
      have hr0 : rows = [] := by
        rcases hplace with h | ⟨b, o, h, -⟩
        · exact h
        · cases h
      subst hr0
      exact fin _ _ ⟨by simpa using hnl, .inl ⟨rfl, rfl⟩⟩ (Below.refl _ _)
    | some ad =>
      rcases hplace with hr0 | ⟨b, o, h, hc, -⟩
      · subst hr0
        have hn0 : news = [] := List.length_eq_zero_iff.1 (by simpa using hnl)
        subst hn0
        refine (clone_zero L i0 z te.lts.length i0.bytes hi1 hz hi2 rfl (by rw [← Array.length_toList]; exact hzl) hpos (fun w => run_sizeOf htok) ad cap w).mono fun e w' ⟨v', he, ho, hb⟩ => ?_
        subst he
        exact fin v' w' ho hb
      · cases h
        refine (AnyE.slices_Clone L i0 z te.lts.length i0.bytes hi1 hz hi2 rfl (by rw [← Array.length_toList]; exact hzl) hpos (fun w => run_sizeOf htok) b o rows.length cap news w hnl (by unfold maxLen; unfold maxCells at hmax; omega) ?_ ?_ hone).mono fun e w' ⟨v', he, ho, _, hb⟩ => ?_
        · have h1 : rows.length * i0.bytes ≤ rows.length * (24 * te.lts.length) := Nat.mul_le_mul_left _ hi5
          have h2 : rows.length * (24 * te.lts.length) = 24 * (rows.length * te.lts.length) := by rw [Nat.mul_left_comm]
          unfold maxRow at hmr
          omega
        · intro j u hu
          obtain ⟨hj, rfl⟩ := List.getElem?_eq_some_iff.1 hu
          exact hc.get j hj
        · subst he
          exact fin v' w' ho hb
  unfold primClone at h ⊢
  split at h
  · rename_i es' rows
    cases hc : (LT.beqs te.lts es' && flatLs te.lts && Nat.ble te.lts.length 1000) with
    | false => rw [hc] at h; exact absurd rfl h
    | true =>
      cases hm : decide (rows.length * te.lts.length ≤ maxRow) with
      | false => rw [hc, hm] at h; exact absurd rfl h
      | true =>
        simp only [Bool.and_eq_true] at hc
        have := LT.beqs_eq hc.1.1
        subst this
        intro g0 I A w vs hp
        exact key (ID g0 I) _ rows g0 I A w vs hp (fun v hv => hv) hc.1.2 (Nat.le_of_ble_eq_true hc.2) (of_decide_eq_true hm)
  · rename_i es' rows
    cases hc : (LT.beqs te.lts es' && flatLs te.lts && Nat.ble te.lts.length 1000) with
    | false => rw [hc] at h; exact absurd rfl h
    | true =>
      cases hm : decide (rows.length * te.lts.length ≤ maxRow) with
      | false => rw [hc, hm] at h; exact absurd rfl h
      | true =>
        simp only [Bool.and_eq_true] at hc
        have := LT.beqs_eq hc.1.1
        subst this
        intro g0 I A w vs hp
        exact key I _ rows g0 I A w vs hp (fun v hv => hv) hc.1.2 (Nat.le_of_ble_eq_true hc.2) (of_decide_eq_true hm)
  · exact absurd rfl h
end Go.E

namespace Go.E
open Go
/-! SHA-256 on natural numbers (words below 2 ^ 32) -/
def M32 : Nat := 4294967296
def rotN (x n : Nat) : Nat := ((x / 2 ^ n) ||| (x * 2 ^ (32 - n))) % M32
def sg0 (x : Nat) : Nat := rotN x 7 ^^^ rotN x 18 ^^^ (x / 2 ^ 3)
def sg1 (x : Nat) : Nat := rotN x 17 ^^^ rotN x 19 ^^^ (x / 2 ^ 10)
def padN (b : List Nat) : List Nat := b ++ [128] ++ List.replicate ((119 - b.length % 64) % 64) 0 ++ ((List.range 8).map fun i => (8 * b.length / 2 ^ (56 - 8 * i)) % 256)
def w16 (b : List Nat) : List Nat := (List.range 16).map fun i => ((b.getD (4 * i) 0 * 2 ^ 24 ||| b.getD (4 * i + 1) 0 * 2 ^ 16) ||| b.getD (4 * i + 2) 0 * 2 ^ 8) ||| b.getD (4 * i + 3) 0
def wExt : Nat → List Nat → List Nat
  | 0, w => w
  | n + 1, w => wExt n (w ++ [(w.getD (w.length - 16) 0 + sg0 (w.getD (w.length - 15) 0) + w.getD (w.length - 7) 0 + sg1 (w.getD (w.length - 2) 0)) % M32])
def words (b : List Nat) : List Nat := wExt 48 (w16 b)
def turn1 (v : List Nat) (k w : Nat) : List Nat :=
  let e := v.getD 4 0
  let a := v.getD 0 0
  let s1 := rotN e 6 ^^^ rotN e 11 ^^^ rotN e 25
  let ch := (e &&& v.getD 5 0) ^^^ ((M32 - 1 - e) &&& v.getD 6 0)
  let t1 := v.getD 7 0 + s1 + ch + k + w
  let s0 := rotN a 2 ^^^ rotN a 13 ^^^ rotN a 22
  let maj := (a &&& v.getD 1 0) ^^^ (a &&& v.getD 2 0) ^^^ (v.getD 1 0 &&& v.getD 2 0)
  [(t1 + s0 + maj) % M32, a, v.getD 1 0, v.getD 2 0, (v.getD 3 0 + t1) % M32, e, v.getD 5 0, v.getD 6 0]
def turns : List Nat → List Nat → List Nat → List Nat
  | k :: ks, w :: ws, v => turns ks ws (turn1 v k w)
  | _, _, v => v
def blockN (k : List Nat) (h b : List Nat) : List Nat := (List.range 8).map fun i => ((turns k (words b) h).getD i 0 + h.getD i 0) % M32
def blocksN (k : List Nat) : Nat → List Nat → List Nat → List Nat
  | 0, h, _ => h
  | n + 1, h, b => blocksN k n (blockN k h (b.take 64)) (b.drop 64)
def kN : List Nat := [
  0x428a2f98, 0x71374491, 0xb5c0fbcf, 0xe9b5dba5, 0x3956c25b, 0x59f111f1, 0x923f82a4, 0xab1c5ed5,
  0xd807aa98, 0x12835b01, 0x243185be, 0x550c7dc3, 0x72be5d74, 0x80deb1fe, 0x9bdc06a7, 0xc19bf174,
  0xe49b69c1, 0xefbe4786, 0x0fc19dc6, 0x240ca1cc, 0x2de92c6f, 0x4a7484aa, 0x5cb0a9dc, 0x76f988da,
  0x983e5152, 0xa831c66d, 0xb00327c8, 0xbf597fc7, 0xc6e00bf3, 0xd5a79147, 0x06ca6351, 0x14292967,
  0x27b70a85, 0x2e1b2138, 0x4d2c6dfc, 0x53380d13, 0x650a7354, 0x766a0abb, 0x81c2c92e, 0x92722c85,
  0xa2bfe8a1, 0xa81a664b, 0xc24b8b70, 0xc76c51a3, 0xd192e819, 0xd6990624, 0xf40e3585, 0x106aa070,
  0x19a4c116, 0x1e376c08, 0x2748774c, 0x34b0bcb5, 0x391c0cb3, 0x4ed8aa4a, 0x5b9cca4f, 0x682e6ff3,
  0x748f82ee, 0x78a5636f, 0x84c87814, 0x8cc70208, 0x90befffa, 0xa4506ceb, 0xbef9a3f7, 0xc67178f2]
def h0N : List Nat := [0x6a09e667, 0xbb67ae85, 0x3c6ef372, 0xa54ff53a, 0x510e527f, 0x9b05688c, 0x1f83d9ab, 0x5be0cd19]
def digestN (b : List Nat) : List Nat := (blocksN kN ((padN b).length / 64) h0N (padN b)).flatMap fun x => [x / 2 ^ 24 % 256, x / 2 ^ 16 % 256, x / 2 ^ 8 % 256, x % 256]
def digestB (rows : List (List T)) : ByteArray := ⟨((digestN (rows.map fun r => (r.getD 0 dflt).int.toNat)).map UInt8.ofNat).toArray⟩
def primDigest : List Arg → R3 Ret
  | [.one (.dz [.sc (.int .u8)] rows)] => cond (decide (rows.length ≤ 1073741824)) (.ok ⟨[.one (.sc .str (.s (digestB rows)))], [[none]], []⟩) .bad
  | [.one (.dz [] rows)] => cond rows.isEmpty (.ok ⟨[.one (.sc .str (.s (digestB [])))], [[none]], []⟩) .bad
  | _ => .bad
/-! numbers below 2 ^ 63 as they are in 64 bits -/
theorem of64 {x : Nat} (h : x < 9223372036854775808) : (BitVec.ofInt 64 (x : Int)) = BitVec.ofNat 64 x := by simp
theorem back64 {x : BitVec 64} (h : x.toNat < 9223372036854775808) : bvBack .i64 x = .i (x.toNat : Int) := by
  have : IntKind.i64.wrap ((x.toNat : Nat) : Int) = (x.toNat : Int) := wrap_i64 (by omega) (by omega)
  exact congrArg T.i this
theorem back64' {x : BitVec 64} {n : Nat} (e : x.toNat = n) (h : n < 9223372036854775808) : bvBack .i64 x = .i (n : Int) := by
  subst e; exact back64 h
theorem xor64 {a b : Nat} (ha : a < 9223372036854775808) (hb : b < 9223372036854775808) : bvBack .i64 (BitVec.ofInt IntKind.i64.bits (a : Int) ^^^ BitVec.ofInt IntKind.i64.bits (b : Int)) = .i ((a ^^^ b : Nat) : Int) := by
  have hx : a ^^^ b < 9223372036854775808 := Nat.xor_lt_two_pow (n := 63) ha hb
  have e : (BitVec.ofInt 64 (a : Int) ^^^ BitVec.ofInt 64 (b : Int)).toNat = a ^^^ b := by
    rw [of64 ha, of64 hb, BitVec.toNat_xor, BitVec.toNat_ofNat, BitVec.toNat_ofNat, Nat.mod_eq_of_lt (by omega), Nat.mod_eq_of_lt (by omega)]
  exact back64' e hx
theorem or64 {a b : Nat} (ha : a < 9223372036854775808) (hb : b < 9223372036854775808) : bvBack .i64 (BitVec.ofInt IntKind.i64.bits (a : Int) ||| BitVec.ofInt IntKind.i64.bits (b : Int)) = .i ((a ||| b : Nat) : Int) := by
  have hx : a ||| b < 9223372036854775808 := Nat.or_lt_two_pow (n := 63) ha hb
  have e : (BitVec.ofInt 64 (a : Int) ||| BitVec.ofInt 64 (b : Int)).toNat = a ||| b := by
    rw [of64 ha, of64 hb, BitVec.toNat_or, BitVec.toNat_ofNat, BitVec.toNat_ofNat, Nat.mod_eq_of_lt (by omega), Nat.mod_eq_of_lt (by omega)]
  exact back64' e hx
theorem and64 {a b : Nat} (ha : a < 9223372036854775808) (hb : b < 9223372036854775808) : bvBack .i64 (BitVec.ofInt IntKind.i64.bits (a : Int) &&& BitVec.ofInt IntKind.i64.bits (b : Int)) = .i ((a &&& b : Nat) : Int) := by
  have hx : a &&& b < 9223372036854775808 := Nat.lt_of_le_of_lt Nat.and_le_left ha
  have e : (BitVec.ofInt 64 (a : Int) &&& BitVec.ofInt 64 (b : Int)).toNat = a &&& b := by
    rw [of64 ha, of64 hb, BitVec.toNat_and, BitVec.toNat_ofNat, BitVec.toNat_ofNat, Nat.mod_eq_of_lt (by omega), Nat.mod_eq_of_lt (by omega)]
  exact back64' e hx
theorem mask64 {a : Nat} (ha : a < 9223372036854775808) : bvBack .i64 (BitVec.ofInt IntKind.i64.bits (a : Int) &&& BitVec.ofInt IntKind.i64.bits 4294967295) = .i ((a % M32 : Nat) : Int) := by
  have := and64 (a := a) (b := 4294967295) ha (by omega)
  rw [show ((4294967295 : Nat) : Int) = 4294967295 from rfl] at this
  rw [this]
  congr 2
  exact Nat.and_two_pow_sub_one_eq_mod a 32
theorem rotN_lt (x n : Nat) : rotN x n < 4294967296 := Nat.mod_lt _ (by unfold M32; omega)
end Go.E

namespace Go.Proofs.Ytnddpgeeoepkkaa
open Go Go.E Go.Proofs
noncomputable section
def tyTab : List (Option TI) := [
  none,
  some ⟨.other, [.sc (.any)], 8, false⟩,
  some ⟨.sc (.int .i64), [.sc (.int .i64)], 8, false⟩,
  some ⟨.sc (.int .i64), [.sc (.int .i64)], 8, false⟩,
  some ⟨.sc (.bool), [.sc (.bool)], 1, false⟩,
  some ⟨.sc (.int .u8), [.sc (.int .u8)], 1, false⟩,
  some ⟨.sc (.int .u8), [.sc (.int .u8)], 1, false⟩,
  some ⟨.struct [(0, 2), (1, 3), (2, 4), (3, 6)], [.sc (.int .i64), .sc (.int .i64), .sc (.bool), .sc (.int .u8)], 24, true⟩,
  some ⟨.struct [(0, 2), (1, 3), (2, 4), (3, 6)], [.sc (.int .i64), .sc (.int .i64), .sc (.bool), .sc (.int .u8)], 24, true⟩,
  some ⟨.sc (.str), [.sc (.str)], 16, false⟩,
  some ⟨.sc (.str), [.sc (.str)], 16, false⟩,
  some ⟨.sc (.str), [.sc (.str)], 16, false⟩,
  some ⟨.sc (.int .u64), [.sc (.int .u64)], 8, false⟩,
  some ⟨.struct [(0, 9), (1, 12)], [.sc (.str), .sc (.int .u64)], 24, false⟩,
  some ⟨.struct [(0, 9), (1, 12)], [.sc (.str), .sc (.int .u64)], 24, false⟩,
  some ⟨.ptr 117, [.sc (.any)], 8, false⟩,
  some ⟨.ptr 120, [.sc (.any)], 8, false⟩,
  some ⟨.ptr 129, [.sc (.any)], 8, false⟩,
  some ⟨.struct [(0, 17)], [.sc (.any)], 8, false⟩,
  some ⟨.struct [(0, 17)], [.sc (.any)], 8, false⟩,
  some ⟨.other, [.sc (.any)], 16, false⟩,
  some ⟨.sc (.int .i32), [.sc (.int .i32)], 4, false⟩,
  some ⟨.slice 9, [.sl [.sc (.str)]], 24, false⟩,
  some ⟨.struct [(0, 3), (1, 9), (2, 9), (3, 22)], [.sc (.int .i64), .sc (.str), .sc (.str), .sl [.sc (.str)]], 64, false⟩,
  some ⟨.struct [(0, 3), (1, 9), (2, 9), (3, 22)], [.sc (.int .i64), .sc (.str), .sc (.str), .sl [.sc (.str)]], 64, false⟩,
  some ⟨.slice 47, [.sl [.sl [.sc (.str), .sc (.str)]]], 24, false⟩,
  some ⟨.other, [.sc (.any)], 8, false⟩,
  some ⟨.other, [.sc (.any)], 8, false⟩,
  some ⟨.slice 50, [.sl [.sc (.int .i64), .sc (.int .i64), .sl [.sc (.str), .sc (.str), .sl [.sc (.str)]]]], 24, false⟩,
  some ⟨.struct [(0, 3), (1, 9), (2, 22), (3, 28)], [.sc (.int .i64), .sc (.str), .sl [.sc (.str)], .sl [.sc (.int .i64), .sc (.int .i64), .sl [.sc (.str), .sc (.str), .sl [.sc (.str)]]]], 72, false⟩,
  some ⟨.struct [(0, 3), (1, 9), (2, 22), (3, 28)], [.sc (.int .i64), .sc (.str), .sl [.sc (.str)], .sl [.sc (.int .i64), .sc (.int .i64), .sl [.sc (.str), .sc (.str), .sl [.sc (.str)]]]], 72, false⟩,
  some ⟨.other, [.sc (.any)], 8, false⟩,
  some ⟨.struct [(0, 3), (1, 9), (2, 9), (3, 22)], [.sc (.int .i64), .sc (.str), .sc (.str), .sl [.sc (.str)]], 64, false⟩,
  some ⟨.other, [.sc (.any)], 8, false⟩,
  some ⟨.slice 54, [.sl [.sl [.sc (.str), .sc (.str)]]], 24, false⟩,
  some ⟨.other, [.sc (.any)], 8, false⟩,
  some ⟨.other, [.sc (.any)], 8, false⟩,
  some ⟨.other, [.sc (.any)], 8, false⟩,
  some ⟨.other, [.sc (.any)], 8, false⟩,
  some ⟨.other, [.sc (.any)], 8, false⟩,
  some ⟨.other, [.sc (.any)], 8, false⟩,
  some ⟨.other, [.sc (.any)], 8, false⟩,
  some ⟨.other, [.sc (.any)], 8, false⟩,
  some ⟨.other, [.sc (.any)], 8, false⟩,
  some ⟨.other, [.sc (.any)], 8, false⟩,
  some ⟨.slice 76, [.sl [.sc (.str), .sc (.str)]], 24, false⟩,
  some ⟨.struct [(0, 45)], [.sl [.sc (.str), .sc (.str)]], 24, false⟩,
  some ⟨.struct [(0, 45)], [.sl [.sc (.str), .sc (.str)]], 24, false⟩,
  some ⟨.slice 69, [.sl [.sc (.str), .sc (.str), .sl [.sc (.str)]]], 24, false⟩,
  some ⟨.struct [(0, 3), (1, 3), (2, 48)], [.sc (.int .i64), .sc (.int .i64), .sl [.sc (.str), .sc (.str), .sl [.sc (.str)]]], 40, false⟩,
  some ⟨.struct [(0, 3), (1, 3), (2, 48)], [.sc (.int .i64), .sc (.int .i64), .sl [.sc (.str), .sc (.str), .sl [.sc (.str)]]], 40, false⟩,
  some ⟨.other, [.sc (.any)], 8, false⟩,
  some ⟨.slice 65, [.sl [.sc (.str), .sc (.str)]], 24, false⟩,
  some ⟨.struct [(0, 52)], [.sl [.sc (.str), .sc (.str)]], 24, false⟩,
  some ⟨.struct [(0, 52)], [.sl [.sc (.str), .sc (.str)]], 24, false⟩,
  some ⟨.other, [.sc (.any)], 8, false⟩,
  some ⟨.other, [.sc (.any)], 8, false⟩,
  some ⟨.other, [.sc (.any)], 8, false⟩,
  some ⟨.other, [.sc (.any)], 8, false⟩,
  some ⟨.other, [.sc (.any)], 8, false⟩,
  some ⟨.other, [.sc (.any)], 8, false⟩,
  some ⟨.other, [.sc (.any)], 8, false⟩,
  some ⟨.other, [.sc (.any)], 8, false⟩,
  some ⟨.other, [.sc (.any)], 8, false⟩,
  some ⟨.struct [(0, 9), (1, 9)], [.sc (.str), .sc (.str)], 32, true⟩,
  some ⟨.struct [(0, 9), (1, 9)], [.sc (.str), .sc (.str)], 32, true⟩,
  some ⟨.other, [.sc (.any)], 8, false⟩,
  some ⟨.other, [.sc (.any)], 8, false⟩,
  some ⟨.struct [(0, 65), (2, 22)], [.sc (.str), .sc (.str), .sl [.sc (.str)]], 56, false⟩,
  some ⟨.struct [(0, 65), (2, 22)], [.sc (.str), .sc (.str), .sl [.sc (.str)]], 56, false⟩,
  some ⟨.other, [.sc (.any)], 8, false⟩,
  some ⟨.other, [.sc (.any)], 8, false⟩,
  some ⟨.other, [.sc (.any)], 8, false⟩,
  some ⟨.other, [.sc (.any)], 8, false⟩,
  some ⟨.other, [.sc (.any)], 8, false⟩,
  some ⟨.other, [.sc (.any)], 8, false⟩,
  some ⟨.struct [(0, 9), (1, 9)], [.sc (.str), .sc (.str)], 32, true⟩,
  some ⟨.other, [.sc (.any)], 8, false⟩,
  some ⟨.other, [.sc (.any)], 8, false⟩,
  some ⟨.other, [.sc (.any)], 8, false⟩,
  some ⟨.other, [.sc (.any)], 8, false⟩,
  some ⟨.other, [.sc (.any)], 8, false⟩,
  some ⟨.other, [.sc (.any)], 8, false⟩,
  some ⟨.slice 5, [.sl [.sc (.int .u8)]], 24, false⟩,
  some ⟨.other, [.sc (.any)], 8, false⟩,
  some ⟨.other, [.sc (.any)], 8, false⟩,
  some ⟨.other, [.sc (.any)], 8, false⟩,
  some ⟨.other, [.sc (.any)], 8, false⟩,
  some ⟨.other, [.sc (.any)], 8, false⟩,
  some ⟨.other, [.sc (.any)], 8, false⟩,
  some ⟨.other, [.sc (.any)], 8, false⟩,
  some ⟨.slice 3, [.sl [.sc (.int .i64)]], 24, false⟩,
  some ⟨.other, [.sc (.any)], 8, false⟩,
  some ⟨.other, [.sc (.any)], 8, false⟩,
  some ⟨.sc (.int .u64), [.sc (.int .u64)], 8, false⟩,
  some ⟨.other, [.sc (.any)], 8, false⟩,
  some ⟨.other, [.sc (.any)], 8, false⟩,
  some ⟨.sc (.int .u32), [.sc (.int .u32)], 4, false⟩,
  some ⟨.array 8 97, [.sc (.int .u32), .sc (.int .u32), .sc (.int .u32), .sc (.int .u32), .sc (.int .u32), .sc (.int .u32), .sc (.int .u32), .sc (.int .u32)], 32, false⟩,
  some ⟨.ptr 110, [.sc (.any)], 8, false⟩,
  some ⟨.other, [.sc (.any)], 8, false⟩,
  some ⟨.other, [.sc (.any)], 8, false⟩,
  some ⟨.other, [.sc (.any)], 8, false⟩,
  some ⟨.other, [.sc (.any)], 8, false⟩,
  some ⟨.other, [.sc (.any)], 8, false⟩,
  some ⟨.ptr 98, [.sc (.any)], 8, false⟩,
  some ⟨.other, [.sc (.any)], 8, false⟩,
  some ⟨.other, [.sc (.any)], 8, false⟩,
  some ⟨.other, [.sc (.any)], 8, false⟩,
  some ⟨.other, [.sc (.any)], 8, false⟩,
  some ⟨.array 64 97, [.sc (.int .u32), .sc (.int .u32), .sc (.int .u32), .sc (.int .u32), .sc (.int .u32), .sc (.int .u32), .sc (.int .u32), .sc (.int .u32), .sc (.int .u32), .sc (.int .u32), .sc (.int .u32), .sc (.int .u32), .sc (.int .u32), .sc (.int .u32), .sc (.int .u32), .sc (.int .u32), .sc (.int .u32), .sc (.int .u32), .sc (.int .u32), .sc (.int .u32), .sc (.int .u32), .sc (.int .u32), .sc (.int .u32), .sc (.int .u32), .sc (.int .u32), .sc (.int .u32), .sc (.int .u32), .sc (.int .u32), .sc (.int .u32), .sc (.int .u32), .sc (.int .u32), .sc (.int .u32), .sc (.int .u32), .sc (.int .u32), .sc (.int .u32), .sc (.int .u32), .sc (.int .u32), .sc (.int .u32), .sc (.int .u32), .sc (.int .u32), .sc (.int .u32), .sc (.int .u32), .sc (.int .u32), .sc (.int .u32), .sc (.int .u32), .sc (.int .u32), .sc (.int .u32), .sc (.int .u32), .sc (.int .u32), .sc (.int .u32), .sc (.int .u32), .sc (.int .u32), .sc (.int .u32), .sc (.int .u32), .sc (.int .u32), .sc (.int .u32), .sc (.int .u32), .sc (.int .u32), .sc (.int .u32), .sc (.int .u32), .sc (.int .u32), .sc (.int .u32), .sc (.int .u32), .sc (.int .u32)], 256, false⟩,
  some ⟨.other, [.sc (.any)], 8, false⟩,
  some ⟨.other, [.sc (.any)], 8, false⟩,
  some ⟨.other, [.sc (.any)], 8, false⟩,
  some ⟨.other, [.sc (.any)], 8, false⟩,
  some ⟨.other, [.sc (.any)], 8, false⟩,
  some ⟨.struct [(0, 17), (1, 17), (2, 17), (3, 9)], [.sc (.any), .sc (.any), .sc (.any), .sc (.str)], 40, false⟩,
  some ⟨.struct [(0, 17), (1, 17), (2, 17), (3, 9)], [.sc (.any), .sc (.any), .sc (.any), .sc (.str)], 40, false⟩,
  some ⟨.array 0 16, [], 0, false⟩,
  none,
  none,
  some ⟨.other, [.sc (.any)], 8, false⟩,
  some ⟨.sc (.int .u8), [.sc (.int .u8)], 1, false⟩,
  some ⟨.sc (.int .u8), [.sc (.int .u8)], 1, false⟩,
  some ⟨.other, [.sc (.any)], 8, false⟩,
  some ⟨.ptr 5, [.sc (.any)], 8, false⟩,
  some ⟨.sc (.int .i32), [.sc (.int .i32)], 4, false⟩,
  some ⟨.sc (.int .i32), [.sc (.int .i32)], 4, false⟩,
  some ⟨.struct [(0, 12), (1, 12), (2, 97), (3, 122), (4, 5), (5, 5), (6, 123), (7, 124), (8, 125), (9, 126), (10, 127)], [.sc (.int .u64), .sc (.int .u64), .sc (.int .u32), .sc (.int .u8), .sc (.int .u8), .sc (.int .u8), .sc (.int .u8), .sc (.any), .sc (.any), .sc (.int .i32), .sc (.int .i32)], 48, false⟩,
  some ⟨.struct [(0, 12), (1, 12), (2, 97), (3, 122), (4, 5), (5, 5), (6, 123), (7, 124), (8, 125), (9, 126), (10, 127)], [.sc (.int .u64), .sc (.int .u64), .sc (.int .u32), .sc (.int .u8), .sc (.int .u8), .sc (.int .u8), .sc (.int .u8), .sc (.any), .sc (.any), .sc (.int .i32), .sc (.int .i32)], 48, false⟩,
  some ⟨.other, [.sc (.any)], 8, false⟩]
noncomputable def fnTab : List (Nat × Func) := [
  (2, Try.f2),
  (3, Try.f3),
  (4, Try.f4),
  (5, Try.f5),
  (6, Try.f6),
  (7, Try.f7),
  (8, Try.f8),
  (9, Try.f9),
  (10, Try.f10),
  (11, Try.f11),
  (12, Try.f12),
  (13, Try.f13),
  (14, Try.f14),
  (15, Try.f15),
  (16, Try.f16),
  (17, Try.f17),
  (18, Try.f18),
  (19, Try.f19),
  (20, Try.f20),
  (21, Try.f21),
  (22, Try.f22),
  (23, Try.f23),
  (24, Try.f24),
  (25, Try.f25),
  (26, Try.f26),
  (27, Try.f27),
  (28, Try.f28),
  (29, Try.f29),
  (30, Try.f30),
  (31, Try.f31),
  (32, Try.f32),
  (33, Try.f33),
  (34, Try.f34),
  (35, Try.f35),
  (36, Try.f36),
  (37, Try.f37),
  (38, Try.f38),
  (39, Try.f39),
  (40, Try.f40),
  (41, Try.f41),
  (42, Try.f42),
  (43, Try.f43),
  (44, Try.f44),
  (45, Try.f45),
  (46, Try.f46),
  (47, Try.f47),
  (48, Try.f48),
  (49, Try.f49),
  (50, Try.f50),
  (51, Try.f51),
  (52, Try.f52),
  (53, Try.f53),
  (54, Try.f54),
  (55, Try.f55),
  (56, Try.f56),
  (57, Try.f57),
  (58, Try.f58),
  (59, Try.f59),
  (60, Try.f60),
  (61, Try.f61),
  (62, Try.f62),
  (63, Try.f63),
  (64, Try.f64),
  (65, Try.f65),
  (66, Try.f66),
  (67, Try.f67),
  (68, Try.f68),
  (69, Try.f69),
  (70, Try.f70),
  (71, Try.f71),
  (72, Try.f72),
  (73, Try.f73),
  (74, Try.f74),
  (75, Try.f75),
  (76, Try.f76),
  (77, Try.f77),
  (78, Try.f78),
  (79, Try.f79),
  (80, Try.f80),
  (81, Try.f81),
  (82, Try.f82),
  (83, Try.f83),
  (84, Try.f84),
  (85, Try.f85),
  (86, Try.f86),
  (87, Try.f87),
  (88, Try.f88)]
theorem fns_ok : FnsOk Try.prog fnTab := by
  unfold fnTab
  exact ⟨⟨Try.func2, by kernel_rfl, by kernel_rfl⟩, ⟨Try.func3, by kernel_rfl, by kernel_rfl⟩, ⟨Try.func4, by kernel_rfl, by kernel_rfl⟩, ⟨Try.func5, by kernel_rfl, by kernel_rfl⟩, ⟨Try.func6, by kernel_rfl, by kernel_rfl⟩, ⟨Try.func7, by kernel_rfl, by kernel_rfl⟩, ⟨Try.func8, by kernel_rfl, by kernel_rfl⟩, ⟨Try.func9, by kernel_rfl, by kernel_rfl⟩, ⟨Try.func10, by kernel_rfl, by kernel_rfl⟩, ⟨Try.func11, by kernel_rfl, by kernel_rfl⟩, ⟨Try.func12, by kernel_rfl, by kernel_rfl⟩, ⟨Try.func13, by kernel_rfl, by kernel_rfl⟩, ⟨Try.func14, by kernel_rfl, by kernel_rfl⟩, ⟨Try.func15, by kernel_rfl, by kernel_rfl⟩, ⟨Try.func16, by kernel_rfl, by kernel_rfl⟩, ⟨Try.func17, by kernel_rfl, by kernel_rfl⟩, ⟨Try.func18, by kernel_rfl, by kernel_rfl⟩, ⟨Try.func19, by kernel_rfl, by kernel_rfl⟩, ⟨Try.func20, by kernel_rfl, by kernel_rfl⟩, ⟨Try.func21, by kernel_rfl, by kernel_rfl⟩, ⟨Try.func22, by kernel_rfl, by kernel_rfl⟩, ⟨Try.func23, by kernel_rfl, by kernel_rfl⟩, ⟨Try.func24, by kernel_rfl, by kernel_rfl⟩, ⟨Try.func25, by kernel_rfl, by kernel_rfl⟩, ⟨Try.func26, by kernel_rfl, by kernel_rfl⟩, ⟨Try.func27, by kernel_rfl, by kernel_rfl⟩, ⟨Try.func28, by kernel_rfl, by kernel_rfl⟩, ⟨Try.func29, by kernel_rfl, by kernel_rfl⟩, ⟨Try.func30, by kernel_rfl, by kernel_rfl⟩, ⟨Try.func31, by kernel_rfl, by kernel_rfl⟩, ⟨Try.func32, by kernel_rfl, by kernel_rfl⟩, ⟨Try.func33, by kernel_rfl, by kernel_rfl⟩, ⟨Try.func34, by kernel_rfl, by kernel_rfl⟩, ⟨Try.func35, by kernel_rfl, by kernel_rfl⟩, ⟨Try.func36, by kernel_rfl, by kernel_rfl⟩, ⟨Try.func37, by kernel_rfl, by kernel_rfl⟩, ⟨Try.func38, by kernel_rfl, by kernel_rfl⟩, ⟨Try.func39, by kernel_rfl, by kernel_rfl⟩, ⟨Try.func40, by kernel_rfl, by kernel_rfl⟩, ⟨Try.func41, by kernel_rfl, by kernel_rfl⟩, ⟨Try.func42, by kernel_rfl, by kernel_rfl⟩, ⟨Try.func43, by kernel_rfl, by kernel_rfl⟩, ⟨Try.func44, by kernel_rfl, by kernel_rfl⟩, ⟨Try.func45, by kernel_rfl, by kernel_rfl⟩, ⟨Try.func46, by kernel_rfl, by kernel_rfl⟩, ⟨Try.func47, by kernel_rfl, by kernel_rfl⟩, ⟨Try.func48, by kernel_rfl, by kernel_rfl⟩, ⟨Try.func49, by kernel_rfl, by kernel_rfl⟩, ⟨Try.func50, by kernel_rfl, by kernel_rfl⟩, ⟨Try.func51, by kernel_rfl, by kernel_rfl⟩, ⟨Try.func52, by kernel_rfl, by kernel_rfl⟩, ⟨Try.func53, by kernel_rfl, by kernel_rfl⟩, ⟨Try.func54, by kernel_rfl, by kernel_rfl⟩, ⟨Try.func55, by kernel_rfl, by kernel_rfl⟩, ⟨Try.func56, by kernel_rfl, by kernel_rfl⟩, ⟨Try.func57, by kernel_rfl, by kernel_rfl⟩, ⟨Try.func58, by kernel_rfl, by kernel_rfl⟩, ⟨Try.func59, by kernel_rfl, by kernel_rfl⟩, ⟨Try.func60, by kernel_rfl, by kernel_rfl⟩, ⟨Try.func61, by kernel_rfl, by kernel_rfl⟩, ⟨Try.func62, by kernel_rfl, by kernel_rfl⟩, ⟨Try.func63, by kernel_rfl, by kernel_rfl⟩, ⟨Try.func64, by kernel_rfl, by kernel_rfl⟩, ⟨Try.func65, by kernel_rfl, by kernel_rfl⟩, ⟨Try.func66, by kernel_rfl, by kernel_rfl⟩, ⟨Try.func67, by kernel_rfl, by kernel_rfl⟩, ⟨Try.func68, by kernel_rfl, by kernel_rfl⟩, ⟨Try.func69, by kernel_rfl, by kernel_rfl⟩, ⟨Try.func70, by kernel_rfl, by kernel_rfl⟩, ⟨Try.func71, by kernel_rfl, by kernel_rfl⟩, ⟨Try.func72, by kernel_rfl, by kernel_rfl⟩, ⟨Try.func73, by kernel_rfl, by kernel_rfl⟩, ⟨Try.func74, by kernel_rfl, by kernel_rfl⟩, ⟨Try.func75, by kernel_rfl, by kernel_rfl⟩, ⟨Try.func76, by kernel_rfl, by kernel_rfl⟩, ⟨Try.func77, by kernel_rfl, by kernel_rfl⟩, ⟨Try.func78, by kernel_rfl, by kernel_rfl⟩, ⟨Try.func79, by kernel_rfl, by kernel_rfl⟩, ⟨Try.func80, by kernel_rfl, by kernel_rfl⟩, ⟨Try.func81, by kernel_rfl, by kernel_rfl⟩, ⟨Try.func82, by kernel_rfl, by kernel_rfl⟩, ⟨Try.func83, by kernel_rfl, by kernel_rfl⟩, ⟨Try.func84, by kernel_rfl, by kernel_rfl⟩, ⟨Try.func85, by kernel_rfl, by kernel_rfl⟩, ⟨Try.func86, by kernel_rfl, by kernel_rfl⟩, ⟨Try.func87, by kernel_rfl, by kernel_rfl⟩, ⟨Try.func88, by kernel_rfl, by kernel_rfl⟩, trivial⟩
def ovTab : List (Nat × Sig) := [(13, ⟨[[.R, .R, .R, .O []], [.R]]⟩), (14, ⟨[[.O []], [.R]]⟩), (15, ⟨[[.R, .R, .O [], .O []], [.R]]⟩), (27, ⟨[[.O []], [.R]]⟩), (28, ⟨[[.O []], [.R]]⟩), (29, ⟨[[.O []], [.R]]⟩), (43, ⟨[[.O []], [.R]]⟩), (86, ⟨[[.O []], [.R]]⟩), (88, ⟨[[.O []], [.R]]⟩)]
def fzTab : List (Nat × Nat) := []
def msTab : List (Nat × Nat × List M) := [(6, 43, [.F, .F, .F]), (8, 2, [.O [.F, .F]]), (8, 7, [.O [.F, .F]]), (9, 40, [.F, .F, .O [.F, .F, .O [.F]]]), (19, 81, [.F, .F, .F]), (23, 74, [.F, .F, .O [.F]])]
def castTab : List (Nat × Nat × List M) := []
def boxTab : List (Nat × Nat × List M) := [(3, 10, [.F, .F, .O [.F], .O [.F, .F, .F]]), (3, 11, [.F, .F, .F, .O [.F]]), (3, 13, [.F, .F, .O [.F], .O [.F, .F, .F]]), (3, 17, [.F, .F, .O [.F], .O [.F, .F, .F]]), (6, 8, [.F, .F, .O [.F], .O [.F, .F, .F]]), (6, 17, [.F, .F, .O [.F], .O [.F, .F, .F]]), (6, 26, [.F, .F, .O [.F], .O [.F, .F, .F]]), (6, 9, [.F, .F, .O [.F], .O [.F, .F, .F]]), (7, 2, [.F, .F, .F, .O [.F]]), (7, 3, [.F, .F, .F, .O [.F]]), (9, 4, [.F, .F, .F, .O [.F]]), (9, 8, [.F, .F, .O [.F], .O [.F, .F, .O [.F, .F, .O [.F]]]]), (9, 18, [.F, .F, .O [.F], .O [.F, .F, .O [.F, .F, .O [.F]]]]), (9, 26, [.F, .F, .O [.F], .O [.F, .F, .O [.F, .F, .O [.F]]]]), (9, 9, [.F, .F, .O [.F], .O [.F, .F, .O [.F, .F, .O [.F]]]]), (9, 11, [.O [.F, .F]]), (19, 6, [.F, .F, .O [.F, .F, .F]]), (19, 14, [.F, .F, .O [.F, .F, .F]]), (19, 17, [.F, .F, .O [.F, .F, .F]]), (19, 7, [.F, .F, .O [.F, .F, .F]]), (21, 2, [.O [.F, .F]]), (21, 3, [.O [.F, .F]]), (23, 6, [.F, .F, .O [.F, .F, .O [.F]]]), (23, 14, [.F, .F, .O [.F, .F, .O [.F]]]), (23, 57, [.F, .F, .O [.F, .F, .O [.F]]]), (23, 9, [.F, .F, .O [.F, .F, .O [.F]]])]
def canTab : List (Nat × Nat × List M) := [(6, 0, [.F, .F, .O [.F], .O [.F, .F, .F]]), (7, 0, [.F, .F, .F, .O [.F]]), (8, 0, [.O [.O [.F, .F]]]), (9, 0, [.F, .F, .O [.F], .O [.F, .F, .O [.F, .F, .O [.F]]]]), (19, 0, [.F, .F, .O [.F, .F, .F]]), (20, 0, [.O [.F]]), (21, 0, [.O [.F, .F]]), (22, 0, [.O [.F]]), (23, 0, [.F, .F, .O [.F, .F, .O [.F]]]), (35, 0, [.O [.F]]), (36, 0, [.O [.F, .F]]), (39, 0, [.O [.F]]), (65, 0, [.O [.F]]), (66, 0, [.O [.F]]), (67, 0, [.O [.F]]), (68, 0, [.O [.F]]), (69, 0, [.O [.F]]), (74, 0, [.O [.F]]), (76, 0, [.O [.F]]), (77, 0, [.O [.F]]), (78, 0, [.O [.F]]), (80, 0, [.O [.F]]), (83, 0, [.O [.F]]), (86, 0, [.O [.F]]), (87, 0, [.O [.F]]), (88, 0, [.O [.F]])]
def cutTab : List (Nat × Nat × Nat) := []
def rgTab : List (Nat × Nat × List (Nat × Nat)) := []
def retTab : List (Nat) := []
def prims : FuncId → Option (List Arg → R3 Ret) := fun f => cond (Nat.beq f 22) (some (primClone [.sc (.str)])) <| cond (Nat.beq f 60) (some primDigest)  <| none
def prims0 : FuncId → Option (List Arg → R3 Ret) := fun f => cond (Nat.beq f 83) (some (primClone [.sc (.int .u8)])) none

def look3 {α : Type} (d : α) (f x : Nat) : List (Nat × Nat × α) → α
  | [] => d
  | (a, b, c) :: r => cond (Nat.beq f a && Nat.beq x b) c (look3 d f x r)
def CX : Ctx where
  ty := tabFn tyTab
  fn := fun f => lookF f fnTab
  sig := sigTab tyTab fnTab ovTab
  own := fun f d => !(fzTab.any fun x => Nat.beq x.1 f && Nat.beq x.2 d)
  ms := fun f d => look3 [] f d msTab
  cut := fun f d => look3 0 f d cutTab
  cast := fun f d => look3 [] f d castTab
  box := fun f d => look3 [] f d boxTab
  rg := fun f d => look3 [] f d rgTab
  ret := fun f => retTab.any (Nat.beq f)
  can := fun f q => look3 [] f q canTab
end
end Go.Proofs.Ytnddpgeeoepkkaa

namespace Go.Proofs.Ytnddpgeeoepkkaa
open Go Go.E Go.Proofs
def slices_Clone___byte_byte_ : Nat → T → (T → An) → An
  | 0, _, _ => .bad
  | m + 1, x0, k0 => cond (decide (x0.rows.length * 1 ≤ maxRow)) (k0 (T.l x0.rows)) .bad
noncomputable def slices_Clone___byte_byte__a : List Arg := [.one (.dz [.sc (.int .u8)] [])]
def slices_Clone___byte_byte__w (m : Nat) (vs : List T) (k : Ret → An) : An := slices_Clone___byte_byte_ m (vs.headD dflt) (fun z0 => k ⟨[.one (.own [7000000] [.sc (.int .u8)] [.F] z0.rows)], [[none]], []⟩)
theorem slices_Clone___byte_byte__eq (m : Nat) : ∀ vs k, callK CX prims0 m 83 (fArgs slices_Clone___byte_byte__a vs) k = slices_Clone___byte_byte__w m vs k := by
  intro vs k
  cases m with
  | zero => rfl
  | succ m =>
    refine Eq.trans (b := ((primClone [.sc (.int .u8)]) (fArgs slices_Clone___byte_byte__a vs)).bind k) (by kernel_rfl) ?_
    refine Eq.trans (b := (cond (decide ((vs.headD dflt).rows.length * 1 ≤ maxRow)) (R3.ok ⟨[.one (.own [7000000] [.sc (.int .u8)] [.F] (vs.headD dflt).rows)], [[none]], []⟩) .bad).bind k) (by kernel_rfl) ?_
    rw [cond_bind]; rfl

noncomputable def slices_Clone___byte_byte__f : Fs := ⟨83, slices_Clone___byte_byte__a, slices_Clone___byte_byte__w⟩
noncomputable def slices_Clone___byte_byte__t : List Fs := slices_Clone___byte_byte__f :: []
theorem slices_Clone___byte_byte__g : FGood CX prims0 slices_Clone___byte_byte__t ∧ FEqn CX prims0 slices_Clone___byte_byte__f := ⟨good_cons good_nil (x := slices_Clone___byte_byte__f) slices_Clone___byte_byte__eq, slices_Clone___byte_byte__eq⟩
/-! loop.example/g00244/impl.Padded -/
noncomputable def impl_Padded_L1_0 (m : Nat) : Nat → T → T → T → (T → An) → An
  | 0, _, _, _, _ => .bad
  | n + 1, x0, x1, x2, k0 =>
    cond (decide (x1.int ≥ 0))
    (cond (decide (0 ≤ (IntKind.u64.wrap (IntKind.i64.wrap (8 * x1.int)))))
    (cond (decide ((x2.rows.length + 1) * 1 ≤ maxRow))
    (impl_Padded_L1_0 m n x0 (T.i (IntKind.i64.wrap (x1.int - 1))) (T.l (x2.rows ++ [[(T.i (IntKind.u8.wrap (Int.fdiv x0.int (2 ^ (min (Int.toNat (IntKind.u64.wrap (IntKind.i64.wrap (8 * x1.int)))) IntKind.i64.bits)))))]])) k0)
    (.bad))
    (.bad))
    (k0 (T.l x2.rows))
noncomputable def impl_Padded_L0_0 (m : Nat) : Nat → T → T → (T → T → An) → An
  | 0, _, _, _ => .bad
  | n + 1, x0, x1, k0 =>
    cond ((Int.tmod (IntKind.i64.wrap ((x1.rows.length : Int) + 8)) 64) != 0)
    (cond (decide ((x1.rows.length + 1) * 1 ≤ maxRow))
    (impl_Padded_L0_0 m n x0 (T.l (x1.rows ++ [[(T.i 0)]])) k0)
    (.bad))
    (k0 x0 (T.l x1.rows))
noncomputable def impl_Padded : Nat → T → (T → An) → An
  | 0, _, _ => .bad
  | m + 1, x0, k0 =>
    slices_Clone___byte_byte_ m (T.l x0.rows)
    (fun y0 => cond (decide ((y0.rows.length + 1) * 1 ≤ maxRow))
    (impl_Padded_L0_0 m m (T.l x0.rows) (T.l (y0.rows ++ [[(T.i 128)]]))
    (fun y1 y2 => impl_Padded_L1_0 m m (T.i (IntKind.i64.wrap (8 * (y1.rows.length : Int)))) (T.i 7) (T.l y2.rows)
    (fun y3 => k0 (T.l y3.rows))))
    (.bad))
noncomputable def impl_Padded_f : Fs := ⟨74, [.one (.fz [.sc (.int .u8)] [])], fun m vs k => ap 1 (impl_Padded m) vs (lm 1 fun z => k (fRet ⟨[.one (.own (KR 0 0) [.sc (.int .u8)] [.F] [])], [[none]], [none]⟩ z))⟩
noncomputable def impl_Padded_l : List Ls := [⟨[0, 1, 0, 1, 1, 1, 1], ⟨[(3, .one (LA (KI 0) [.sc (.int .u8)])), (4, .one (LI)), (5, .one (LI))], [((KI 0), .row [.sc (.int .u8)] [.F] [])]⟩, fun m n vs k => ap 3 (impl_Padded_L1_0 m n) vs (lm 1 fun z => k (.exit 2) (fPack ⟨[(3, .one (LA (KI 0) [.sc (.int .u8)]))], [((KI 0), .row [.sc (.int .u8)] [.F] [])]⟩ z))⟩, ⟨[0, 0, 1, 1], ⟨[(0, .one (LZ [.sc (.int .u8)])), (3, .one (LA (KI 0) [.sc (.int .u8)]))], [((KI 0), .row [.sc (.int .u8)] [.F] [])]⟩, fun m n vs k => ap 2 (impl_Padded_L0_0 m n) vs (lm 2 fun z => k (.exit 0) (fPack ⟨[(0, .one (LZ [.sc (.int .u8)])), (3, .one (LA (KI 0) [.sc (.int .u8)]))], [((KI 0), .row [.sc (.int .u8)] [.F] [])]⟩ z))⟩]
noncomputable def impl_Padded_t : List Fs := impl_Padded_f :: slices_Clone___byte_byte__t
theorem impl_Padded_g : FGood CX prims0 impl_Padded_t ∧ FEqn CX prims0 impl_Padded_f := fnG slices_Clone___byte_byte__g.1 impl_Padded_f Try.f74 ⟨74, 1, 35, 4⟩ impl_Padded_l (fun _ _ => rfl) (fun _ _ _ => by kernel_rfl) ⟨fun _ _ _ => rfl, fun _ _ _ => rfl, trivial⟩ ⟨fun _ _ _ _ _ _ => by kernel_rfl, fun _ _ _ _ _ _ => by kernel_rfl, trivial⟩ (fun _ _ _ _ _ => by kernel_rfl)

end Go.Proofs.Ytnddpgeeoepkkaa

