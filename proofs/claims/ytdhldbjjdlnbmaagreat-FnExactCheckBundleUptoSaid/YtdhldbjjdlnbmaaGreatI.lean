/- A part of the proof: texts S7I2: see the last part's opening words. -/
import Derived.Test.YtdhldbjjdlnbmaaGreatD
import Derived.Test.YtdhldbjjdlnbmaaGreatProg
set_option linter.unusedVariables false
set_option linter.unusedSimpArgs false
set_option linter.unnecessarySimpa false
namespace Go.Proofs.YtdhldbjjdlnbmaaGreat
open Go Go.E Go.Proofs Go.RowKit Go.Lib Go.Shelf
theorem ins_info : (Tryz.prog.info? 49).map (fun i => (i.zero, i.size, i.bytes)) = some (some (.agg #[.string ⟨#[]⟩, .string ⟨#[]⟩]), 2, 32) := by kernel_rfl
set_option maxHeartbeats 8000000 in
set_option maxRecDepth 1000000 in
theorem ins_shift {b n cap i vb vo m vc : Nat} {c : Array Value} {el : TypeId} {fz : Nat × Nat} {vs : List Value} {cv : Array Value} {elv : TypeId} {fv : Nat × Nat} {w : World} (hB : Block w b c el fz) (hsz : c.size = cap * 2) (hfz : ∀ o, o ≤ c.size → ¬ (fz.1 ≤ o ∧ o < fz.2)) (hS : ∀ v ∈ c.toList.take (n * 2), Single v)
    (hBv : Block w vb cv elv fv) (hfv : ∀ o, o ≤ cv.size → ¬ (fv.1 ≤ o ∧ o < fv.2)) (hvb : vb ≠ b) (hvl : vs.length = m * 2) (hcv : cv.size = vc * 2) (hmv : m ≤ vc) (hv : cv.toList.take (m * 2) = vs) (hSv : ∀ v ∈ vs, Single v) (hi : i < n) (hm : 0 < m) (hroom : n + m ≤ cap) (hmax : n + m ≤ 9223372036854775807) :
    Calls Tryz.prog 78 #[.slice (some ⟨b, 0, none⟩) n cap, .int .i64 i, .slice (some ⟨vb, 0, none⟩) m vc] w fun e w' => e = .returned (.slice (some ⟨b, 0, none⟩) (n + m) cap) ∧ ∃ c' q, w' = (World.put w b c' el fz).drewN q ∧ c'.size = c.size ∧
      c'.toList.take ((n + m) * 2) = c.toList.take (i * 2) ++ vs ++ (c.toList.take (n * 2)).drop (i * 2) := by
  have mixed : Tryz.prog.follows .mixedOrders = true := by kernel_rfl
  obtain ⟨i0, hi0, hz0, hzs, hzb⟩ := info_parts ins_info
  have hsizes : (Tryz.prog.info? 49).map (·.size) = some 2 := by rw [hi0]; simp [hzs]
  have hz1 : ¬ ((m : Int) = 0) := by omega
  have hz2 : ¬ ((i : Int) = (n : Int)) := by omega
  have hw1 : IntKind.i64.wrap ((i : Int) + (m : Int)) = (i : Int) + (m : Int) := by rw [IntKind.wrap_i64]; omega
  have hb1 : (0 : Int) ≤ (i : Int) + (m : Int) := by omega
  have hin : i ≤ n := by omega
  have htn : ((i : Int) + (m : Int)).toNat = i + m := by omega
  have hb2 : ¬ (cap = i + m) := by omega
  have hb3 : (i : Int) ≤ (n : Int) + (m : Int) := by omega
  have hb4 : ¬ (cap = i) := by omega
  have hov : ∀ lb cb, (callFunc 102 #[.slice (some ⟨vb, 0, none⟩) m vc, .slice (some ⟨b, (i + m) * 2, none⟩) lb cb]).run Tryz.prog w = .ok (.value (.bool false)) w := fun lb cb => by
    rw [run_callFunc_extern Tryz.func102 (by kernel_rfl) (by kernel_rfl) (by kernel_rfl) (e := Extern.SlicesOverlaps.overlaps #[27, 27] #[4]) (by kernel_rfl),
      Lib.run_overlaps_apart w 27 4 49 Tryz.underlying27 2 Tryz.sizeOf49 ⟨vb, 0, none⟩ ⟨b, (i + m) * 2, none⟩ m vc lb cb hvb elv el cv.size c.size (by unfold World.shape?; rw [hBv]) (by unfold World.shape?; rw [hB]) (by omega)
        (by unfold World.frozen?; rw [show w.heap[({ block := vb, off := 0 } : Addr).block]? = some (.cells cv elv fv) from hBv]; have := hfv 0 (by omega); simp only [Bool.and_eq_false_iff, decide_eq_false_iff_not]; omega)
        (by unfold World.frozen?; rw [show w.heap[({ block := vb, off := cv.size } : Addr).block]? = some (.cells cv elv fv) from hBv]; have := hfv cv.size (by omega); simp only [Bool.and_eq_false_iff, decide_eq_false_iff_not]; omega)]
    rfl
  obtain ⟨cs, hcs⟩ : ∃ cs, cs = (c.toList.take (n * 2)).drop (i * 2) := ⟨_, rfl⟩
  have hcl : cs.length = (n - i) * 2 := by rw [hcs, List.length_drop, List.length_take]; simp; omega
  have hcg : ∀ (W : World), Block W b c el fz → ∀ j v, cs[j]? = some v → W.cell? ((⟨b, i * 2, none⟩ : Addr).add j) = some v := fun W hW j v hj => by
    rw [Go.E.addr_add, cellP hW]
    rw [hcs, List.getElem?_drop, List.getElem?_take] at hj
    split at hj
    · simpa using hj
    · cases hj
  have hSc : ∀ v ∈ cs, Single v := fun v hv => hS v (by rw [hcs] at hv; exact List.mem_of_mem_drop hv)
  obtain ⟨c1, hc1⟩ : ∃ c1, c1 = (c.toList.take ((i + m) * 2) ++ cs ++ c.toList.drop ((i + m) * 2 + cs.length)).toArray := ⟨_, rfl⟩
  have hc1s : c1.size = c.size := by rw [hc1]; simp; omega
  have hBd : Block w.drew b c el fz := hB
  have hcp1 : ∀ ty dc sc, (Builtin.copy_ #[27, 27] ty #[.slice (some ⟨b, (i + m) * 2, none⟩) (n + m - (i + m)) dc, .slice (some ⟨b, i * 2, none⟩) (n + m - i) sc]).run Tryz.prog w.drew = .ok (goInt ((Nat.min (n + m - i) (n + m - (i + m)) : Nat) : Int)) (World.put w.drew b c1 el fz) := fun ty dc sc => by
    rw [hc1]
    exact run_copyK Tryz.underlying27 hsizes hBd (by rw [hcl]; congr 1; omega) (hcg w.drew hBd) (by omega) hfz hSc
  obtain ⟨W1, hW1⟩ : ∃ W1, W1 = World.put w.drew b c1 el fz := ⟨_, rfl⟩
  have hB1 : Block W1 b c1 el fz := by rw [hW1]; exact put_block hBd
  obtain ⟨c2, hc2⟩ : ∃ c2, c2 = (c1.toList.take (i * 2) ++ vs ++ c1.toList.drop (i * 2 + vs.length)).toArray := ⟨_, rfl⟩
  have hvg : ∀ (W : World), Block W vb cv elv fv → ∀ j v, vs[j]? = some v → W.cell? ((⟨vb, 0, none⟩ : Addr).add j) = some v := fun W hW j v hj => by
    rw [Go.E.addr_add, cellP hW, Nat.zero_add]
    rw [← hv, List.getElem?_take] at hj
    split at hj
    · simpa using hj
    · cases hj
  have hcp2 : ∀ (W : World), Block W b c1 el fz → Block W vb cv elv fv → ∀ ty dc, (Builtin.copy_ #[27, 27] ty #[.slice (some ⟨b, i * 2, none⟩) (n + m - i) dc, .slice (some ⟨vb, 0, none⟩) m vc]).run Tryz.prog W = .ok (goInt ((Nat.min m (n + m - i) : Nat) : Int)) (World.put W b c2 el fz) := fun W h1 h2 ty dc => by
    rw [hc2]
    exact run_copyK Tryz.underlying27 hsizes h1 (by rw [hvl]; congr 1; omega) (hvg W h2) (by omega) (by rw [hc1s]; exact hfz) hSv
  rw [← hW1] at hcp1
  have HW1 : Hid (W1 = World.put w.drew b c1 el fz) := hW1
  have hin1 := ins_list c.toList cs vs (i * 2) (by rw [hcl, hvl]; simp; omega)
  have eim : (i + m) * 2 = i * 2 + vs.length := by rw [hvl, Nat.add_mul]
  rw [eim] at hc1
  have HL : Hid (c2.toList.take ((n + m) * 2) = c.toList.take (i * 2) ++ vs ++ cs) := by
    show c2.toList.take ((n + m) * 2) = c.toList.take (i * 2) ++ vs ++ cs
    rw [← hin1, hc2, hc1]
    congr 1
    omega
  have HS2 : Hid (c2.size = c.size) := by
    show c2.size = c.size
    rw [hc2, ← hc1s]; simp; omega
  have HCS : Hid (cs = (c.toList.take (n * 2)).drop (i * 2)) := hcs
  have hB1v : Block W1 vb cv elv fv := by rw [hW1]; exact put_other hBv hvb
  clear hW1 hc1 hc2 hcs eim hin1 hv
  go_enter Tryz.func78, Tryz.ntmps78
  go_wp2_with (simp only [hov])
  go_region_law_o (refine step_copy_runI rfl _ _ 27 27 rfl _ _ (by simp [Act.eval, Act.put]) (by simp [Act.eval, Act.put]) (hcp1 _ _ _) ?_)
  go_wp2_with (at_builtin; refine wpList_copy_runI _ rfl _ _ 27 27 rfl _ _ rfl rfl (hcp2 _ hB1 hB1v _ _) ?_)
  go_ret
  refine ⟨rfl, c2, 1, ?_, HS2.out, ?_⟩
  · rw [HW1.out, put_put]; rfl
  · rw [← HCS.out]; exact HL.out
set_option maxHeartbeats 8000000 in
set_option maxRecDepth 1000000 in
theorem ins_end_room {b n cap vb m vc : Nat} {c : Array Value} {el : TypeId} {fz : Nat × Nat} {vs : List Value} {cv : Array Value} {elv : TypeId} {fv : Nat × Nat} {w : World} (hB : Block w b c el fz) (hsz : c.size = cap * 2) (hfz : ∀ o, o ≤ c.size → ¬ (fz.1 ≤ o ∧ o < fz.2))
    (hBv : Block w vb cv elv fv) (hvl : vs.length = m * 2) (hv : cv.toList.take (m * 2) = vs) (hSv : ∀ v ∈ vs, Single v) (hm : 0 < m) (hroom : n + m ≤ cap) (hmax : n + m ≤ 9223372036854775807) :
    Calls Tryz.prog 78 #[.slice (some ⟨b, 0, none⟩) n cap, .int .i64 n, .slice (some ⟨vb, 0, none⟩) m vc] w fun e w' => e = .returned (.slice (some ⟨b, 0, none⟩) (n + m) cap) ∧ ∃ c' q, w' = (World.put w b c' el fz).drewN q ∧ c'.size = c.size ∧
      c'.toList.take ((n + m) * 2) = c.toList.take (n * 2) ++ vs ++ (c.toList.take (n * 2)).drop (n * 2) := by
  have mixed : Tryz.prog.follows .mixedOrders = true := by kernel_rfl
  obtain ⟨i0, hi0, hz0, hzs, hzb⟩ := info_parts ins_info
  have hz1 : ¬ ((m : Int) = 0) := by omega
  have hvg : ∀ j v, vs[j]? = some v → w.cell? ((⟨vb, 0, none⟩ : Addr).add j) = some v := fun j v hj => by
    rw [Go.E.addr_add, cellP hBv, Nat.zero_add]
    rw [← hv, List.getElem?_take] at hj
    split at hj
    · simpa using hj
    · cases hj
  have hsrc : Src Tryz.prog 2 27 (.slice (some ⟨vb, 0, none⟩) m vc) m vs w := Src.ofSlice w Tryz.underlying27 ⟨vb, 0, none⟩ m vc vs hvl hvg (fun v h => (hSv v h).one)
  obtain ⟨c', hc'⟩ : ∃ c', c' = (c.toList.take (n * 2) ++ vs ++ c.toList.drop (n * 2 + vs.length)).toArray := ⟨_, rfl⟩
  have hrun : ∀ ty, (Builtin.append_ #[27, 27] ty #[.slice (some ⟨b, 0, none⟩) n cap, .slice (some ⟨vb, 0, none⟩) m vc]).run Tryz.prog w = .ok (.slice (some ⟨b, 0, none⟩) (n + m) cap) (World.put w b c' el fz) := fun ty => by
    rw [hc']
    exact append_roomK Tryz.underlying27 hi0 hzs hsrc hroom hB (by omega) hSv hfz
  have HS : Hid (c'.size = c.size) := by
    show c'.size = c.size
    rw [hc']; simp; omega
  have HL : Hid (c'.toList.take ((n + m) * 2) = c.toList.take (n * 2) ++ vs ++ (c.toList.take (n * 2)).drop (n * 2)) := by
    show c'.toList.take ((n + m) * 2) = c.toList.take (n * 2) ++ vs ++ (c.toList.take (n * 2)).drop (n * 2)
    have e0 : (c.toList.take (n * 2)).drop (n * 2) = [] := List.drop_eq_nil_of_le (by rw [List.length_take]; omega)
    have el : (c.toList.take (n * 2) ++ vs).length = (n + m) * 2 := by rw [List.length_append, List.length_take, hvl, Array.length_toList, hsz, Nat.min_eq_left (by omega)]; omega
    rw [e0, List.append_nil, hc', ← el]
    exact List.take_left
  clear hc' hv hvg
  go_enter Tryz.func78, Tryz.ntmps78
  go_wp2_with (at_builtin; refine Lib.wpList_append_run _ rfl _ _ _ _ rfl _ _ rfl rfl _ _ (hrun _) ?_)
  go_ret
  exact ⟨rfl, c', 0, rfl, HS.out, HL.out⟩
set_option maxHeartbeats 8000000 in
set_option maxRecDepth 1000000 in
theorem ins_end_grow {base : Option Addr} {n cap vb m vc : Nat} {olds vs : List Value} {cv : Array Value} {elv : TypeId} {fv : Nat × Nat} {w : World} (hcap : n ≤ cap)
    (hold : (Builtin.firstCells 2 n (.slice base n cap)).run Tryz.prog w.drew = .ok olds.toArray w.drew) (hol : olds.length = n * 2)
    (hBv : Block w vb cv elv fv) (hvl : vs.length = m * 2) (hv : cv.toList.take (m * 2) = vs) (hSv : ∀ v ∈ vs, Single v) (hm : 0 < m) (hroom : cap < n + m) (hbig : (n + m) * 32 ≤ 140737488355328) :
    Calls Tryz.prog 78 #[.slice base n cap, .int .i64 n, .slice (some ⟨vb, 0, none⟩) m vc] w fun e w' => e = .returned (.slice (some ⟨w.heap.size, 0, none⟩) (n + m) (grownCap w (n + m) cap 49)) ∧ ∃ c' q, w' = (w.alloc (.cells c' 49)).drewN q ∧ c'.size = grownCap w (n + m) cap 49 * 2 ∧ n + m ≤ grownCap w (n + m) cap 49 ∧
      c'.toList.take ((n + m) * 2) = olds ++ vs := by
  have mixed : Tryz.prog.follows .mixedOrders = true := by kernel_rfl
  obtain ⟨i0, hi0, hz0, hzs, hzb⟩ := info_parts ins_info
  have hz1 : ¬ ((m : Int) = 0) := by omega
  have hvg : ∀ j v, vs[j]? = some v → w.cell? ((⟨vb, 0, none⟩ : Addr).add j) = some v := fun j v hj => by
    rw [Go.E.addr_add, cellP hBv, Nat.zero_add]
    rw [← hv, List.getElem?_take] at hj
    split at hj
    · simpa using hj
    · cases hj
  have hsrc : Src Tryz.prog i0.size 27 (.slice (some ⟨vb, 0, none⟩) m vc) m vs w := by
    rw [hzs]
    exact Src.ofSlice w Tryz.underlying27 ⟨vb, 0, none⟩ m vc vs hvl hvg (fun v h => (hSv v h).one)
  rw [← hzs] at hold
  have hrun : ∀ ty, (Builtin.append_ #[27, 27] ty #[.slice base n cap, .slice (some ⟨vb, 0, none⟩) m vc]).run Tryz.prog w = _ := fun ty =>
    run_append_grow_src w 27 27 ty 49 i0 _ Tryz.underlying27 hi0 hz0 base n cap olds hold _ m vs hsrc hroom (by omega) (by rw [hzb]; exact growslice_fits hroom hbig)
  have hge := grownCap_ge w (n + m) cap 49
  obtain ⟨g, hg⟩ : ∃ g, g = grownCap w (n + m) cap 49 := ⟨_, rfl⟩
  rw [← hg] at hrun hge ⊢
  obtain ⟨c', hc'⟩ : ∃ c', c' = (olds ++ vs).toArray ++ Builtin.zeroCells ((.agg #[.string ⟨#[]⟩, .string ⟨#[]⟩]) : Value).cells (g - (n + m)) := ⟨_, rfl⟩
  rw [← hc'] at hrun
  have HS : Hid (c'.size = g * 2) := by
    show c'.size = g * 2
    have hzc : (((.agg #[.string ⟨#[]⟩, .string ⟨#[]⟩]) : Value).cells).size = 2 := rfl
    rw [hc', Array.size_append, size_zeroCells, hzc]; simp; omega
  have HL : Hid (c'.toList.take ((n + m) * 2) = olds ++ vs) := by
    show c'.toList.take ((n + m) * 2) = olds ++ vs
    rw [hc', Array.toList_append]
    simp only [List.toList_toArray]
    rw [List.take_append_of_le_length (by simp; omega), List.take_of_length_le (by simp; omega)]
  clear hc' hv hvg hg hold
  go_enter Tryz.func78, Tryz.ntmps78
  cases base with
  | none =>
    go_wp2_with (at_builtin; refine Lib.wpList_append_run _ rfl _ _ _ _ rfl _ _ rfl rfl _ _ (hrun _) ?_)
    all_goals (go_ret; first | exact ⟨rfl, c', 1, rfl, HS.out, hge, HL.out⟩ | exact ⟨rfl, c', ⟨1, rfl⟩, HS.out, HL.out⟩ | exact ⟨rfl, c', ⟨1, rfl⟩, HS.out, hge, HL.out⟩)
  | some a =>
    obtain ⟨ab, ao, asp⟩ := a
    go_wp2_with (at_builtin; refine Lib.wpList_append_run _ rfl _ _ _ _ rfl _ _ rfl rfl _ _ (hrun _) ?_)
    all_goals (go_ret; first | exact ⟨rfl, c', 1, rfl, HS.out, hge, HL.out⟩ | exact ⟨rfl, c', ⟨1, rfl⟩, HS.out, HL.out⟩ | exact ⟨rfl, c', ⟨1, rfl⟩, HS.out, hge, HL.out⟩)
set_option maxHeartbeats 8000000 in
set_option maxRecDepth 1000000 in
theorem ins_grow {b n cap i vb m vc : Nat} {c : Array Value} {el : TypeId} {fz : Nat × Nat} {vs : List Value} {cv : Array Value} {elv : TypeId} {fv : Nat × Nat} {w : World} (hB : Block w b c el fz) (hsz : c.size = cap * 2) (hcap : n ≤ cap) (hS : ∀ v ∈ c.toList.take (n * 2), Single v)
    (hBv : Block w vb cv elv fv) (hvl : vs.length = m * 2) (hv : cv.toList.take (m * 2) = vs) (hSv : ∀ v ∈ vs, Single v) (hi : i < n) (hm : 0 < m) (hroom : cap < n + m) (hbig : (n + m) * 32 ≤ 140737488355328) :
    Calls Tryz.prog 78 #[.slice (some ⟨b, 0, none⟩) n cap, .int .i64 i, .slice (some ⟨vb, 0, none⟩) m vc] w fun e w' => e = .returned (.slice (some ⟨w.heap.size, 0, none⟩) (n + m) (grownCap w (n + m) cap 49)) ∧ ∃ c' q, w' = (w.alloc (.cells c' 49)).drewN q ∧ c'.size = grownCap w (n + m) cap 49 * 2 ∧ n + m ≤ grownCap w (n + m) cap 49 ∧
      c'.toList.take ((n + m) * 2) = c.toList.take (i * 2) ++ vs ++ (c.toList.take (n * 2)).drop (i * 2) := by
  have mixed : Tryz.prog.follows .mixedOrders = true := by kernel_rfl
  obtain ⟨i0, hi0, hz0, hzs, hzb⟩ := info_parts ins_info
  have hsizes : (Tryz.prog.info? 49).map (·.size) = some 2 := by rw [hi0]; simp [hzs]
  have hz1 : ¬ ((m : Int) = 0) := by omega
  have hz2 : ¬ ((i : Int) = (n : Int)) := by omega
  have hz3 : (cap : Int) < (n : Int) + (m : Int) := by omega
  have hkk : (n : Int) + (m : Int) - (i : Int) = ((n + m - i : Nat) : Int) := by omega
  have hik : i + (n + m - i) = n + m := by omega
  obtain ⟨hd, hhd⟩ : ∃ hd, hd = c.toList.take (i * 2) := ⟨_, rfl⟩
  have hhl : hd.length = i * 2 := by rw [hhd, List.length_take]; simp; omega
  obtain ⟨cs, hcs⟩ : ∃ cs, cs = (c.toList.take (n * 2)).drop (i * 2) := ⟨_, rfl⟩
  have hcl : cs.length = (n - i) * 2 := by rw [hcs, List.length_drop, List.length_take]; simp; omega
  have hSc : ∀ v ∈ cs, Single v := fun v hv => hS v (by rw [hcs] at hv; exact List.mem_of_mem_drop hv)
  have hcg : ∀ (W : World), Block W b c el fz → ∀ j v, cs[j]? = some v → W.cell? ((⟨b, i * 2, none⟩ : Addr).add j) = some v := fun W hW j v hj => by
    rw [Go.E.addr_add, cellP hW]
    rw [hcs, List.getElem?_drop, List.getElem?_take] at hj
    split at hj
    · simpa using hj
    · cases hj
  have hvg : ∀ (W : World), Block W vb cv elv fv → ∀ j v, vs[j]? = some v → W.cell? ((⟨vb, 0, none⟩ : Addr).add j) = some v := fun W hW j v hj => by
    rw [Go.E.addr_add, cellP hW, Nat.zero_add]
    rw [← hv, List.getElem?_take] at hj
    split at hj
    · simpa using hj
    · cases hj
  have hold : (Builtin.firstCells i0.size i (.slice (some ⟨b, 0, none⟩) i cap)).run Tryz.prog w.drew = .ok hd.toArray w.drew := by
    rw [hzs]
    exact run_firstCells_some w.drew 2 i ⟨b, 0, none⟩ i cap hd hhl (fun j v hj => by
      rw [Go.E.addr_add, Nat.zero_add]
      show w.cell? _ = _
      rw [cellP hB]
      rw [hhd, List.getElem?_take] at hj
      split at hj
      · simpa using hj
      · cases hj)
  obtain ⟨G, hG⟩ : ∃ G, G = grownCap w (n + m) cap 49 := ⟨_, rfl⟩
  obtain ⟨ROW, hROW⟩ : ∃ ROW : Array Value, ROW = hd.toArray ++ Builtin.zeroCells ((.agg #[.string ⟨#[]⟩, .string ⟨#[]⟩]) : Value).cells (n + m - i) ++ Builtin.zeroCells ((.agg #[.string ⟨#[]⟩, .string ⟨#[]⟩]) : Value).cells (G - (n + m)) := ⟨_, rfl⟩
  have hrz : ∀ ty, (Builtin.append_ #[27, 3] ty #[.slice (some ⟨b, 0, none⟩) i cap, .int .i64 ((n : Int) + (m : Int) - (i : Int))]).run Tryz.prog w = .ok (.slice (some ⟨w.heap.size, 0, none⟩) (n + m) G) (w.drew.alloc (.cells ROW 49)) := fun ty => by
    have h := Lib.run_append_grow_zeros w 27 3 ty 49 i0 _ .i64 .i64 Tryz.underlying27 Tryz.underlying3 hi0 hz0 (some ⟨b, 0, none⟩) i cap hd hold (n + m - i) (by omega) (by omega) (by omega) (by omega) (by rw [hzb]; omega) (by rw [hzb, hik]; exact growslice_fits hroom hbig)
    rw [hik] at h
    rw [hkk, hROW, hG]
    exact h
  have hge := grownCap_ge w (n + m) cap 49
  have hG63 : G ≤ 9223372036854775807 := by
    have := grownCap_le_maxLen w (n + m) cap 49 (by unfold maxLen; omega)
    rw [← hG] at this
    unfold maxLen at this
    omega
  rw [← hG] at hge ⊢
  have hzc : (((.agg #[.string ⟨#[]⟩, .string ⟨#[]⟩]) : Value).cells).size = 2 := rfl
  have hRs : ROW.size = G * 2 := by
    rw [hROW, Array.size_append, Array.size_append, size_zeroCells, size_zeroCells, hzc]
    simp only [List.size_toArray, hhl]
    omega
  have hRt : ROW.toList.take (i * 2) = hd := by
    rw [hROW, Array.toList_append, Array.toList_append]
    simp only [List.toList_toArray]
    rw [List.append_assoc, ← hhl, List.take_left]
  obtain ⟨N, hN⟩ : ∃ N, N = w.heap.size := ⟨_, rfl⟩
  obtain ⟨W1, hW1⟩ : ∃ W1, W1 = w.drew.alloc (.cells ROW 49) := ⟨_, rfl⟩
  have hlb : b < w.heap.size := (Array.getElem?_eq_some_iff.1 hB).1
  have hlv : vb < w.heap.size := (Array.getElem?_eq_some_iff.1 hBv).1
  have hN1 : Block W1 N ROW 49 (0, 0) := by rw [hW1, hN]; exact block_alloc (w := w.drew)
  have hOb : Block W1 b c el fz := by rw [hW1]; exact block_alloc_old (w := w.drew) hB
  have hOv : Block W1 vb cv elv fv := by rw [hW1]; exact block_alloc_old (w := w.drew) hBv
  obtain ⟨c1, hc1⟩ : ∃ c1, c1 = (ROW.toList.take (i * 2) ++ vs ++ ROW.toList.drop (i * 2 + vs.length)).toArray := ⟨_, rfl⟩
  have hc1s : c1.size = ROW.size := by rw [hc1]; simp; omega
  have hcpA : ∀ (W : World), Block W N ROW 49 (0, 0) → Block W vb cv elv fv → ∀ ty dc, (Builtin.copy_ #[27, 27] ty #[.slice (some ⟨N, i * 2, none⟩) (n + m - i) dc, .slice (some ⟨vb, 0, none⟩) m vc]).run Tryz.prog W = .ok (goInt ((Nat.min m (n + m - i) : Nat) : Int)) (World.put W N c1 49 (0, 0)) := fun W h1 h2 ty dc => by
    rw [hc1]
    exact run_copyK Tryz.underlying27 hsizes h1 (by rw [hvl]; congr 1; omega) (hvg W h2) (by omega) (fun o ho => by simp) hSv
  obtain ⟨c2, hc2⟩ : ∃ c2, c2 = (c1.toList.take ((i + m) * 2) ++ cs ++ c1.toList.drop ((i + m) * 2 + cs.length)).toArray := ⟨_, rfl⟩
  have hcpB : ∀ (W : World), Block W N c1 49 (0, 0) → Block W b c el fz → ∀ ty dc sc, (Builtin.copy_ #[27, 27] ty #[.slice (some ⟨N, (i + m) * 2, none⟩) (n + m - (i + m)) dc, .slice (some ⟨b, i * 2, none⟩) (n - i) sc]).run Tryz.prog W = .ok (goInt ((Nat.min (n - i) (n + m - (i + m)) : Nat) : Int)) (World.put W N c2 49 (0, 0)) := fun W h1 h2 ty dc sc => by
    rw [hc2]
    exact run_copyK Tryz.underlying27 hsizes h1 (by rw [hcl]; congr 1; omega) (hcg W h2) (by omega) (fun o ho => by simp) hSc
  have HL : Hid (c2.toList.take ((n + m) * 2) = c.toList.take (i * 2) ++ vs ++ (c.toList.take (n * 2)).drop (i * 2)) := by
    show c2.toList.take ((n + m) * 2) = c.toList.take (i * 2) ++ vs ++ (c.toList.take (n * 2)).drop (i * 2)
    have el1 : (c1.toList.take ((i + m) * 2)) = hd ++ vs := by
      have e : (hd ++ vs).length = (i + m) * 2 := by rw [List.length_append, hhl, hvl]; omega
      rw [hc1, hRt, ← e]
      exact List.take_left
    have el2 : (hd ++ vs ++ cs).length = (n + m) * 2 := by rw [List.length_append, List.length_append, hhl, hvl, hcl]; omega
    rw [hc2, el1, ← hhd, ← hcs, ← el2]
    exact List.take_left
  have HS : Hid (c2.size = G * 2) := by
    show c2.size = G * 2
    rw [← hRs, ← hc1s, hc2]
    simp
    omega
  have hneN : b ≠ N := by omega
  have hneV : vb ≠ N := by omega
  have HW1 : Hid (W1 = w.drew.alloc (.cells ROW 49)) := hW1
  have HN : Hid (N = w.heap.size) := hN
  rw [← hN] at hrz ⊢
  rw [← hW1] at hrz
  have hw1 : IntKind.i64.wrap ((i : Int) + (m : Int)) = (i : Int) + (m : Int) := by rw [IntKind.wrap_i64]; omega
  have hb1 : (0 : Int) ≤ (i : Int) + (m : Int) := by omega
  have hin : i ≤ n := by omega
  have htn : ((i : Int) + (m : Int)).toNat = i + m := by omega
  have hb3 : (i : Int) ≤ (n : Int) := by omega
  have hGi : ¬ (G = i) := by omega
  have hGim : ¬ (G = i + m) := by omega
  have hci : ¬ (cap = i) := by omega
  have hBd1 : Block (World.put W1 N c1 49 (0, 0)).drew N c1 49 (0, 0) := put_block hN1
  have hBd2 : Block (World.put W1 N c1 49 (0, 0)).drew b c el fz := put_other hOb hneN
  clear hkk hik hold hROW hG hc1 hc2 hhd hcs hW1 hN hRt hRs
  go_enter Tryz.func78, Tryz.ntmps78
  go_wp2_with (first
    | (at_builtin; refine Lib.wpList_append_run _ rfl _ _ _ _ rfl _ _ rfl rfl _ _ (hrz _) ?_)
    | (at_builtin; refine wpList_copy_runI _ rfl _ _ 27 27 rfl _ _ rfl rfl (hcpA _ hN1 hOv _ _) ?_))
  go_region_law_o (refine step_copy_runI rfl _ _ 27 27 rfl _ _ (by simp [Act.eval, Act.put]) (by simp [Act.eval, Act.put]) (hcpB _ hBd1 hBd2 _ _ _) ?_)
  go_wp2
  go_ret
  have HE : World.put (World.put W1 N c1 49 (0, 0)).drew N c2 49 (0, 0) = (w.alloc (.cells c2 49)).drewN 2 := by
    show World.put (World.put W1.drew N c1 49 (0, 0)) N c2 49 (0, 0) = _
    rw [put_put, HW1.out, HN.out]
    exact put_alloc (w := w.drew.drew)
  first | exact ⟨rfl, c2, 2, HE, HS.out, hge, HL.out⟩ | exact ⟨rfl, c2, ⟨2, HE⟩, HS.out, hge, HL.out⟩
end Go.Proofs.YtdhldbjjdlnbmaaGreat

