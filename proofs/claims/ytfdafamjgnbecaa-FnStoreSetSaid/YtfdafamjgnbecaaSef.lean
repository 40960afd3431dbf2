/- The law FnStoreSet holds for all arguments. -/
import Derived.Test.YtfdafamjgnbecaaSee
import Derived.Test.YtfdafamjgnbecaaAvc
import Derived.JoinedOf
import Derived.Test.YtfdafamjgnbecaaRows
set_option linter.unusedVariables false
set_option linter.unusedSimpArgs false
set_option linter.unusedVariables false
set_option linter.unusedSimpArgs false
namespace Go.Av
open Go
set_option maxRecDepth 10000
set_option maxHeartbeats 1000000
theorem storeOK_NOK {l : List GN} (h : storeOK l = true) (hf : ∀ u ∈ l, u.fits) : NOK 12 l := fun u hu => by
  obtain ⟨j, hj, rfl⟩ := List.getElem_of_mem hu
  have h1 := ((storeOK_iff.1 h).1 j hj).1
  rw [List.getD_eq_getElem?_getD, List.getElem?_eq_getElem hj] at h1
  simp only [Option.getD_some] at h1
  refine ⟨hf _ hu, ?_⟩
  generalize l[j] = u at h1
  obtain ⟨id, ty, ⟨k, n, t, l, ns⟩⟩ := u
  obtain ⟨_, _, _, _, _, _, h7, h8, _⟩ := okNd_iff.1 h1
  exact ⟨by show ns.length ≤ l.length; omega, h8⟩
theorem storeOK_mem {l : List GN} (h : storeOK l = true) : ∀ u ∈ l, okNd u = true := fun u hu => by
  obtain ⟨j, hj, rfl⟩ := List.getElem_of_mem hu
  have h1 := ((storeOK_iff.1 h).1 j hj).1
  rwa [List.getD_eq_getElem?_getD, List.getElem?_eq_getElem hj] at h1
theorem setN_nok {l : List GN} {id : Int} {s : List UInt8} {v : GV} (h : storeOK l = false) : setN l id s v = ([], false) := by
  unfold setN; rw [if_neg (by rw [h]; simp)]
theorem fnStoreSet_big (bs : List UInt8) (hb : 1048576 < bs.length) : PCall P 5 [.fsl 1 (byAV bs)] (.bool true) := by
  refine pcall_of_fcall (fcall_walk T_ok ok_5 rfl ?_)
  unfold Go.Proofs.Try.f5
  simp only [Option.getD_some, envOf, Nat.zero_add, Nat.reduceAdd]
  (all_goals (have X1 := @byAV_len; (repeat' (first | refine gx ?_ | (refine gd ?_ ?_ <;> (intro hcond; try (exfalso; omega))) | fail)); all_goals try clear X1))
  rfl
theorem fnStoreSet_law (bs : List UInt8) (hl : Len bs) : PCall P 5 [.fsl 1 (byAV bs)] (.bool true) := by
  refine pcall_of_fcall (fcall_walk T_ok ok_5 rfl ?_)
  unfold Go.Proofs.Try.f5
  simp only [Option.getD_some, envOf, Nat.zero_add, Nat.reduceAdd]
  have hl' : (bs.length : Int) ≤ 1048576 := hl
  (all_goals (have X1 := @byAV_len; (repeat' (first | refine gx ?_ | (refine gd ?_ ?_ <;> (intro hcond; try (exfalso; omega))) | fail)); all_goals try clear X1))
  refine ar_qcall rfl ok_19 rfl (DrawStoreSet_ok bs hl) rfl rfl ?_
  rintro _ ⟨l, id, s, ⟨vk, vn, vt, vl, vns⟩, rfl, hl5, hlf, hs, hv⟩
  have hll : Len l := by simp only [Len]; omega
  obtain ⟨l1, ok1, hset⟩ : ∃ l1 ok, setN l id s ⟨vk, vn, vt, vl, vns⟩ = (l1, ok) := ⟨_, _, rfl⟩
  have hI := implStoreSet_ok l id s ⟨vk, vn, vt, vl, vns⟩ hll hlf hs hv
  have hS := specStoreSet_ok l id s ⟨vk, vn, vt, vl, vns⟩ hll hlf hs hv
  rw [hset] at hI hS
  have hO1 := implStoreOk_ok l hll hlf
  have hO2 := specStoreOk_ok l hll hlf
  (all_goals (have X1 := @GV.enc.eq_1; have X2 := @bneB; have X3 := @beqB; (repeat' (first | refine gx ?_ | (refine gd ?_ ?_ <;> (intro hcond; try (exfalso; omega))) | fail)); all_goals try clear X1 X2 X3))
  (have X1 := @GV.enc.eq_1; have X2 := @bneB; have X3 := @beqB; ((apply ar_call rfl ok_20); (focus exact eva); (focus exact hI); (focus rfl); (focus rfl)); all_goals try clear X1 X2 X3)
  (all_goals (have X1 := @GV.enc.eq_1; have X2 := @bneB; have X3 := @beqB; (repeat' (first | refine gx ?_ | (refine gd ?_ ?_ <;> (intro hcond; try (exfalso; omega))) | fail)); all_goals try clear X1 X2 X3))
  (have X1 := @GV.enc.eq_1; have X2 := @bneB; have X3 := @beqB; ((apply ar_call rfl ok_21); (focus exact eva); (focus exact hS); (focus rfl); (focus rfl)); all_goals try clear X1 X2 X3)
  (all_goals (have X1 := @GV.enc.eq_1; have X2 := @bneB; have X3 := @beqB; (repeat' (first | refine gr ?_ | fail)); all_goals try clear X1 X2 X3))
  rcases Bool.eq_false_or_eq_true (storeOK l) with hok | hok
  · rw [hok] at hO1 hO2
    have hl1 : l1 = (setN l id s ⟨vk, vn, vt, vl, vns⟩).1 := by rw [hset]
    have hb1 : ok1 = (setN l id s ⟨vk, vn, vt, vl, vns⟩).2 := by rw [hset]
    have hN1 : NOK 13 l1 ∧ l1.length = l.length := by
      rw [hl1, setN_eq hok]
      exact set5_ok (storeOK_NOK hok hlf) (by omega) id s _ hs hv
    have hll1 : Len l1 := by simp only [Len]; omega
    have hlf1 : ∀ u ∈ l1, u.fits := fun u hu => (hN1.1 u hu).1
    cases ok1
    · have hl1' : l1 = l := by rw [hl1]; exact setN_false hok hb1.symm
      subst hl1'
      have hP := pgNodes_ok l1 hll hlf (fun u hu => (okNd_size (storeOK_mem hok u hu)).1)
      (all_goals (have X1 := @GV.enc.eq_1; have X2 := @bneB; have X3 := @beqB; (repeat' (first | refine gg ?_ | (refine gd ?_ ?_ <;> (intro hcond; try (exfalso; omega))) | fail)); all_goals try clear X1 X2 X3))
      (have X1 := @GV.enc.eq_1; have X2 := @bneB; have X3 := @beqB; ((apply ar_call rfl ok_22); (focus exact eva); (focus exact hP); (focus rfl); (focus rfl)); all_goals try clear X1 X2 X3)
      (all_goals (have X1 := @GV.enc.eq_1; have X2 := @bneB; have X3 := @beqB; (repeat' (first | refine gg ?_ | (refine gd ?_ ?_ <;> (intro hcond; try (exfalso; omega))) | fail)); all_goals try clear X1 X2 X3))
      (have X1 := @GV.enc.eq_1; have X2 := @bneB; have X3 := @beqB; ((apply ar_call rfl ok_23); (focus exact eva); (focus exact hO1); (focus rfl); (focus rfl)); all_goals try clear X1 X2 X3)
      (all_goals (have X1 := @GV.enc.eq_1; have X2 := @bneB; have X3 := @beqB; (repeat' (first | refine gg ?_ | (refine gd ?_ ?_ <;> (intro hcond; try (exfalso; omega))) | fail)); all_goals try clear X1 X2 X3))
      (have X1 := @GV.enc.eq_1; have X2 := @bneB; have X3 := @beqB; ((apply ar_call rfl ok_24); (focus exact eva); (focus exact hO2); (focus rfl); (focus rfl)); all_goals try clear X1 X2 X3)
      (all_goals (have X1 := @GV.enc.eq_1; have X2 := @bneB; have X3 := @beqB; (repeat' (first | refine gg ?_ | (refine gd ?_ ?_ <;> (intro hcond; try (exfalso; omega))) | fail)); all_goals try clear X1 X2 X3))
      (have X1 := @GV.enc.eq_1; have X2 := @bneB; have X3 := @beqB; ((apply ar_call rfl ok_24); (focus exact eva); (focus exact hO2); (focus rfl); (focus rfl)); all_goals try clear X1 X2 X3)
      (all_goals (have X1 := @GV.enc.eq_1; have X2 := @bneB; have X3 := @beqB; (repeat' (first | refine gg ?_ | (refine gd ?_ ?_ <;> (intro hcond; try (exfalso; omega))) | fail)); all_goals try clear X1 X2 X3))
      (have X1 := @GV.enc.eq_1; have X2 := @bneB; have X3 := @beqB; ((apply ar_call rfl ok_22); (focus exact eva); (focus exact hP); (focus rfl); (focus rfl)); all_goals try clear X1 X2 X3)
      (all_goals (have X1 := @GV.enc.eq_1; have X2 := @bneB; have X3 := @beqB; (repeat' (first | refine gg ?_ | (refine gd ?_ ?_ <;> (intro hcond; try (exfalso; omega))) | fail)); all_goals try clear X1 X2 X3))
      rfl
    · obtain ⟨i0, u', hi0, hid, hls, hcell, hsn, hvo⟩ := setN_true hok hb1.symm
      have hl1s : l1 = l.set i0 u' := hl1.trans hls
      have hok1 : storeOK l1 = true := by rw [hl1s]; exact set_ok hok hi0 hcell
      have hget : storeGet l1 id s = ⟨vk, vn, vt, vl, vns⟩ := by rw [hl1s, ← hid]; exact set_get hok hi0 hcell
      have hag : setN l1 id s ⟨vk, vn, vt, vl, vns⟩ = (l1, true) := by rw [hl1s, ← hid]; exact set_again hok hi0 hcell hsn hvo
      have hoth : ∀ j q, j < l.length → q < (l.getD j default).cells.ns.length → (l.getD j default).id ≠ id ∨ (l.getD j default).cells.ns.getD q [] ≠ s → storeGet l1 (l.getD j default).id ((l.getD j default).cells.ns.getD q []) = (l.getD j default).cells.l.getD q default := fun j q h1 h2 h3 => by
        rw [hl1s]; exact set_other hok hi0 hcell h1 h2 (by rw [hid]; exact h3)
      have hlen1 := hN1.2
      have hvB : (⟨vk, vn, vt, vl, vns⟩ : GV).size ≤ 1000000000 := Nat.le_trans (okV_size hvo) (by decide)
      have hP := pgNodes_ok l1 hll1 hlf1 (fun u hu => (okNd_size (storeOK_mem hok1 u hu)).1)
      have hO3 := implStoreOk_ok l1 hll1 hlf1
      rw [hok1] at hO3
      have hI2 := implStoreSet_ok l1 id s ⟨vk, vn, vt, vl, vns⟩ hll1 hlf1 hs hv
      rw [hag] at hI2
      have hG2 := implStoreGet_ok l1 id s hll1 hlf1
      rw [hget] at hG2
      have hV2 := ValueSame_ok ⟨vk, vn, vt, vl, vns⟩ hv hvB
      clear hcell hls hl1s hset hI hS hb1 hl1 hN1 hag hget
      (all_goals (have X1 := @GV.enc.eq_1; have X2 := @bneB; have X3 := @beqB; (repeat' (first | refine gg ?_ | (refine gd ?_ ?_ <;> (intro hcond; try (exfalso; omega))) | fail)); all_goals try clear X1 X2 X3))
      (have X1 := @GV.enc.eq_1; have X2 := @bneB; have X3 := @beqB; ((apply ar_call rfl ok_22); (focus exact eva); (focus exact hP); (focus rfl); (focus rfl)); all_goals try clear X1 X2 X3)
      (all_goals (have X1 := @GV.enc.eq_1; have X2 := @bneB; have X3 := @beqB; (repeat' (first | refine gg ?_ | (refine gd ?_ ?_ <;> (intro hcond; try (exfalso; omega))) | fail)); all_goals try clear X1 X2 X3))
      (have X1 := @GV.enc.eq_1; have X2 := @bneB; have X3 := @beqB; ((apply ar_call rfl ok_23); (focus exact eva); (focus exact hO1); (focus rfl); (focus rfl)); all_goals try clear X1 X2 X3)
      (all_goals (have X1 := @GV.enc.eq_1; have X2 := @bneB; have X3 := @beqB; (repeat' (first | refine gg ?_ | (refine gd ?_ ?_ <;> (intro hcond; try (exfalso; omega))) | fail)); all_goals try clear X1 X2 X3))
      (have X1 := @GV.enc.eq_1; have X2 := @bneB; have X3 := @beqB; ((apply ar_call rfl ok_24); (focus exact eva); (focus exact hO2); (focus rfl); (focus rfl)); all_goals try clear X1 X2 X3)
      (all_goals (have X1 := @GV.enc.eq_1; have X2 := @bneB; have X3 := @beqB; (repeat' (first | refine gg ?_ | (refine gd ?_ ?_ <;> (intro hcond; try (exfalso; omega))) | fail)); all_goals try clear X1 X2 X3))
      (have X1 := @GV.enc.eq_1; have X2 := @bneB; have X3 := @beqB; ((apply ar_call rfl ok_24); (focus exact eva); (focus exact hO2); (focus rfl); (focus rfl)); all_goals try clear X1 X2 X3)
      (all_goals (have X1 := @GV.enc.eq_1; have X2 := @bneB; have X3 := @beqB; (repeat' (first | refine gg ?_ | (refine gd ?_ ?_ <;> (intro hcond; try (exfalso; omega))) | fail)); all_goals try clear X1 X2 X3))
      refine aw_loopn (fun kk env H => ∃ i : Nat, (kk = l.length - i ∧ i ≤ l.length) ∧ env = [(3, .fsl 7 (encn l)), (4, .int .i64 id), (5, .str s), (6, .ptr 0 0 0), (7, .fsl 7 (encn l1)), (11, .int .i64 (i : Int))] ∧ H = [.row 5 [[.int .i64 vk, .int .i64 vn, .str vt, .fsl 5 (encs vl), .fsl 1 (strs vns)]]]) l.length [(3, .fsl 7 (encn l)), (4, .int .i64 id), (5, .str s), (6, .ptr 0 0 0), (7, .fsl 7 (encn l1)), (11, .int .i64 0)] [.row 5 [[.int .i64 vk, .int .i64 vn, .str vt, .fsl 5 (encs vl), .fsl 1 (strs vns)]]] sb (heapW_refl _) rfl ⟨0, ⟨rfl, by omega⟩, rfl, rfl⟩ ?_
      rintro kk env H ⟨i, ⟨rfl, hi⟩, rfl, rfl⟩
      have hel := encn_len l
      by_cases hlt : i < l.length
      · obtain ⟨u, hu⟩ : ∃ u, l.getD i default = u := ⟨_, rfl⟩
        have hm : u ∈ l := hu ▸ mem_getD hlt
        have huf := hlf u hm
        have huo := storeOK_mem hok u hm
        have huB := (okNd_size huo).2
        have hge := encn_get hlt
        have hot := fun q => hoth i q hlt
        rw [hu] at hge hot
        obtain ⟨uid, uty, ⟨uk, un, ut, ul, uns⟩⟩ := u
        obtain ⟨f0, f1, f2, f3, f4, f5, f6, f7, f8⟩ := huf
        obtain ⟨_, _, _, _, _, _, o7, o8, o9, _⟩ := okNd_iff.1 huo
        have hge : (encn l).getD i [] = [.int .i64 uid, .str uty, .int .i64 uk, .int .i64 un, .str ut, .fsl 5 (encs ul), .fsl 1 (strs uns)] := hge
        have hsn2 := strs_len uns
        have hel2 := encs_len ul
        (all_goals (have X1 := @GV.enc.eq_1; have X2 := @hge; have X3 := @hel; have X4 := @hsn2; have X5 := @hel2; (repeat' (first | refine gg ?_ | (refine gd ?_ ?_ <;> (intro hcond; try (exfalso; omega))) | fail)); all_goals try clear X1 X2 X3 X4 X5))
        refine aw_loopn (fun kk env H => ∃ j : Nat, (kk = uns.length - j ∧ j ≤ uns.length) ∧ env = [(3, .fsl 7 (encn l)), (4, .int .i64 id), (5, .str s), (6, .ptr 0 0 0), (7, .fsl 7 (encn l1)), (11, .int .i64 (i : Int)), (12, .int .i64 (j : Int))] ∧ H = [.row 5 [[.int .i64 vk, .int .i64 vn, .str vt, .fsl 5 (encs vl), .fsl 1 (strs vns)]]]) uns.length [(3, .fsl 7 (encn l)), (4, .int .i64 id), (5, .str s), (6, .ptr 0 0 0), (7, .fsl 7 (encn l1)), (11, .int .i64 (i : Int)), (12, .int .i64 0)] [.row 5 [[.int .i64 vk, .int .i64 vn, .str vt, .fsl 5 (encs vl), .fsl 1 (strs vns)]]] sb (heapW_refl _) rfl ⟨0, ⟨rfl, by omega⟩, rfl, rfl⟩ ?_
        rintro kk env H ⟨j, ⟨rfl, hj⟩, rfl, rfl⟩
        by_cases hjl : j < uns.length
        · have hgn := strs_get hjl
          have hgv := encs_get (l := ul) (i := j) (by omega)
          obtain ⟨w, hw⟩ : ∃ w, ul.getD j default = w := ⟨_, rfl⟩
          have hwf : w.fits := hw ▸ fitss_mem f6 _ (mem_getD (by omega))
          have hwB := huB w (hw ▸ mem_getD (show j < ul.length by omega))
          have hot1 := hot j hjl
          have hot2 : uid ≠ id ∨ uns.getD j [] ≠ s → storeGet l1 uid (uns.getD j []) = w := fun h => (hot1 h).trans hw
          obtain ⟨nm, hnm⟩ : ∃ nm, uns.getD j [] = nm := ⟨_, rfl⟩
          rw [hnm] at hot2 hgn
          rw [hw] at hgv
          have hGj := implStoreGet_ok l1 uid nm hll1 hlf1
          have hVj := ValueSame_ok w hwf hwB
          have hGj2 : uid ≠ id ∨ nm ≠ s → PCall P 26 [.fsl 7 (encn l1), .int .i64 uid, .str nm] (.agg w.enc) := fun h => by
            have := hGj; rw [hot2 h] at this; exact this
          obtain ⟨wk, wn, wt, wl, wns⟩ := w
          have hgv : (encs ul).getD j [] = [.int .i64 wk, .int .i64 wn, .str wt, .fsl 5 (encs wl), .fsl 1 (strs wns)] := hgv
          (all_goals (have X1 := @GV.enc.eq_1; have X2 := @hge; have X3 := @hel; have X4 := @hsn2; have X5 := @hel2; have X6 := @hgn; have X7 := @hgv; (repeat' (first | refine gg ?_ | (refine gd ?_ ?_ <;> (intro hcond; try (exfalso; omega))) | (refine gc ?_ ?_ <;> intro hcs) | fail)); all_goals try clear X1 X2 X3 X4 X5 X6 X7))
          · (have X1 := @GV.enc.eq_1; have X2 := @hge; have X3 := @hel; have X4 := @hsn2; have X5 := @hel2; have X6 := @hgn; have X7 := @hgv; ((apply ard_call rfl ok_26); (focus exact eva); (focus exact hGj2 (by first | (left; assumption) | (left; simpa using hcs) | (right; assumption) | (right; simpa using hcs))); (focus rfl); (focus rfl)); all_goals try clear X1 X2 X3 X4 X5 X6 X7)
            (all_goals (have X1 := @GV.enc.eq_1; have X2 := @hge; have X3 := @hel; have X4 := @hsn2; have X5 := @hel2; have X6 := @hgn; have X7 := @hgv; (repeat' (first | refine gg ?_ | (refine gd ?_ ?_ <;> (intro hcond; try (exfalso; omega))) | fail)); all_goals try clear X1 X2 X3 X4 X5 X6 X7))
            (have X1 := @GV.enc.eq_1; have X2 := @hge; have X3 := @hel; have X4 := @hsn2; have X5 := @hel2; have X6 := @hgn; have X7 := @hgv; ((apply ard_call rfl ok_25); (focus exact eva); (focus exact hVj); (focus rfl); (focus rfl)); all_goals try clear X1 X2 X3 X4 X5 X6 X7)
            (all_goals (have X1 := @GV.enc.eq_1; have X2 := @hge; have X3 := @hel; have X4 := @hsn2; have X5 := @hel2; have X6 := @hgn; have X7 := @hgv; (repeat' (first | refine gg ?_ | (refine gd ?_ ?_ <;> (intro hcond; try (exfalso; omega))) | fail)); all_goals try clear X1 X2 X3 X4 X5 X6 X7))
            exact anextn [(3, .fsl 7 (encn l)), (4, .int .i64 id), (5, .str s), (6, .ptr 0 0 0), (7, .fsl 7 (encn l1)), (11, .int .i64 (i : Int)), (12, .int .i64 ((j + 1 : Nat) : Int))] _ (k' := uns.length - (j + 1)) (by omega) (Nat.le_refl _) sb (heapW_refl _) rfl ⟨j + 1, ⟨rfl, by omega⟩, rfl, rfl⟩
          · (have X1 := @GV.enc.eq_1; have X2 := @hge; have X3 := @hel; have X4 := @hsn2; have X5 := @hel2; have X6 := @hgn; have X7 := @hgv; ((apply ard_call rfl ok_26); (focus exact eva); (focus exact hGj2 (by first | (left; assumption) | (left; simpa using hcs) | (right; assumption) | (right; simpa using hcs))); (focus rfl); (focus rfl)); all_goals try clear X1 X2 X3 X4 X5 X6 X7)
            (all_goals (have X1 := @GV.enc.eq_1; have X2 := @hge; have X3 := @hel; have X4 := @hsn2; have X5 := @hel2; have X6 := @hgn; have X7 := @hgv; (repeat' (first | refine gg ?_ | (refine gd ?_ ?_ <;> (intro hcond; try (exfalso; omega))) | fail)); all_goals try clear X1 X2 X3 X4 X5 X6 X7))
            (have X1 := @GV.enc.eq_1; have X2 := @hge; have X3 := @hel; have X4 := @hsn2; have X5 := @hel2; have X6 := @hgn; have X7 := @hgv; ((apply ard_call rfl ok_25); (focus exact eva); (focus exact hVj); (focus rfl); (focus rfl)); all_goals try clear X1 X2 X3 X4 X5 X6 X7)
            (all_goals (have X1 := @GV.enc.eq_1; have X2 := @hge; have X3 := @hel; have X4 := @hsn2; have X5 := @hel2; have X6 := @hgn; have X7 := @hgv; (repeat' (first | refine gg ?_ | (refine gd ?_ ?_ <;> (intro hcond; try (exfalso; omega))) | fail)); all_goals try clear X1 X2 X3 X4 X5 X6 X7))
            exact anextn [(3, .fsl 7 (encn l)), (4, .int .i64 id), (5, .str s), (6, .ptr 0 0 0), (7, .fsl 7 (encn l1)), (11, .int .i64 (i : Int)), (12, .int .i64 ((j + 1 : Nat) : Int))] _ (k' := uns.length - (j + 1)) (by omega) (Nat.le_refl _) sb (heapW_refl _) rfl ⟨j + 1, ⟨rfl, by omega⟩, rfl, rfl⟩
          · exact anextn [(3, .fsl 7 (encn l)), (4, .int .i64 id), (5, .str s), (6, .ptr 0 0 0), (7, .fsl 7 (encn l1)), (11, .int .i64 (i : Int)), (12, .int .i64 ((j + 1 : Nat) : Int))] _ (k' := uns.length - (j + 1)) (by omega) (Nat.le_refl _) sb (heapW_refl _) rfl ⟨j + 1, ⟨rfl, by omega⟩, rfl, rfl⟩
        · 
          (all_goals (have X1 := @GV.enc.eq_1; have X2 := @hge; have X3 := @hel; have X4 := @hsn2; have X5 := @hel2; (repeat' (first | refine gg ?_ | (refine gd ?_ ?_ <;> (intro hcond; try (exfalso; omega))) | fail)); all_goals try clear X1 X2 X3 X4 X5))
          exact anextn [(3, .fsl 7 (encn l)), (4, .int .i64 id), (5, .str s), (6, .ptr 0 0 0), (7, .fsl 7 (encn l1)), (11, .int .i64 ((i + 1 : Nat) : Int))] _ (k' := l.length - (i + 1)) (by omega) (Nat.le_refl _) sb (heapW_refl _) rfl ⟨i + 1, ⟨rfl, by omega⟩, rfl, rfl⟩
      · 
        have hel1 := encn_len l1
        (all_goals (have X1 := @GV.enc.eq_1; have X2 := @hel; have X3 := @hel1; have X4 := @hlen1; have X5 := @beqB; (repeat' (first | refine gg ?_ | (refine gd ?_ ?_ <;> (intro hcond; try (exfalso; omega))) | fail)); all_goals try clear X1 X2 X3 X4 X5))
        (have X1 := @GV.enc.eq_1; have X2 := @hel; have X3 := @hel1; have X4 := @hlen1; have X5 := @beqB; ((apply ar_call rfl ok_20); (focus exact eva); (focus exact hI2); (focus rfl); (focus rfl)); all_goals try clear X1 X2 X3 X4 X5)
        (all_goals (have X1 := @GV.enc.eq_1; have X2 := @hel; have X3 := @hel1; have X4 := @hlen1; have X5 := @beqB; (repeat' (first | refine gg ?_ | (refine gd ?_ ?_ <;> (intro hcond; try (exfalso; omega))) | fail)); all_goals try clear X1 X2 X3 X4 X5))
        (have X1 := @GV.enc.eq_1; have X2 := @hel; have X3 := @hel1; have X4 := @hlen1; have X5 := @beqB; ((apply ard_call rfl ok_23); (focus exact eva); (focus exact hO3); (focus rfl); (focus rfl)); all_goals try clear X1 X2 X3 X4 X5)
        (all_goals (have X1 := @GV.enc.eq_1; have X2 := @hel; have X3 := @hel1; have X4 := @hlen1; have X5 := @beqB; (repeat' (first | refine gg ?_ | (refine gd ?_ ?_ <;> (intro hcond; try (exfalso; omega))) | fail)); all_goals try clear X1 X2 X3 X4 X5))
        (have X1 := @GV.enc.eq_1; have X2 := @hel; have X3 := @hel1; have X4 := @hlen1; have X5 := @beqB; ((apply ard_call rfl ok_26); (focus exact eva); (focus exact hG2); (focus rfl); (focus rfl)); all_goals try clear X1 X2 X3 X4 X5)
        (all_goals (have X1 := @GV.enc.eq_1; have X2 := @hel; have X3 := @hel1; have X4 := @hlen1; have X5 := @beqB; (repeat' (first | refine gg ?_ | (refine gd ?_ ?_ <;> (intro hcond; try (exfalso; omega))) | fail)); all_goals try clear X1 X2 X3 X4 X5))
        (have X1 := @GV.enc.eq_1; have X2 := @hel; have X3 := @hel1; have X4 := @hlen1; have X5 := @beqB; ((apply ard_call rfl ok_25); (focus exact eva); (focus exact hV2); (focus rfl); (focus rfl)); all_goals try clear X1 X2 X3 X4 X5)
        (all_goals (have X1 := @GV.enc.eq_1; have X2 := @hel; have X3 := @hel1; have X4 := @hlen1; have X5 := @beqB; (repeat' (first | refine gg ?_ | (refine gd ?_ ?_ <;> (intro hcond; try (exfalso; omega))) | fail)); all_goals try clear X1 X2 X3 X4 X5))
        (have X1 := @GV.enc.eq_1; have X2 := @hel; have X3 := @hel1; have X4 := @hlen1; have X5 := @beqB; ((apply ard_call rfl ok_22); (focus exact eva); (focus exact hP); (focus rfl); (focus rfl)); all_goals try clear X1 X2 X3 X4 X5)
        (all_goals (have X1 := @GV.enc.eq_1; have X2 := @hel; have X3 := @hel1; have X4 := @hlen1; have X5 := @beqB; (repeat' (first | refine gg ?_ | (refine gd ?_ ?_ <;> (intro hcond; try (exfalso; omega))) | fail)); all_goals try clear X1 X2 X3 X4 X5))
        rfl
  · rw [hok] at hO1 hO2
    rw [setN_nok hok] at hset
    cases hset
    have hP := pgNodes_ok [] (by simp [Len]) (by simp) (by simp)
    (all_goals (have X1 := @GV.enc.eq_1; have X2 := @bneB; have X3 := @beqB; (repeat' (first | refine gg ?_ | (refine gd ?_ ?_ <;> (intro hcond; try (exfalso; omega))) | fail)); all_goals try clear X1 X2 X3))
    (have X1 := @GV.enc.eq_1; have X2 := @bneB; have X3 := @beqB; ((apply ar_call rfl ok_22); (focus exact eva); (focus exact hP); (focus rfl); (focus rfl)); all_goals try clear X1 X2 X3)
    (all_goals (have X1 := @GV.enc.eq_1; have X2 := @bneB; have X3 := @beqB; (repeat' (first | refine gg ?_ | (refine gd ?_ ?_ <;> (intro hcond; try (exfalso; omega))) | fail)); all_goals try clear X1 X2 X3))
    (have X1 := @GV.enc.eq_1; have X2 := @bneB; have X3 := @beqB; ((apply ar_call rfl ok_23); (focus exact eva); (focus exact hO1); (focus rfl); (focus rfl)); all_goals try clear X1 X2 X3)
    (all_goals (have X1 := @GV.enc.eq_1; have X2 := @bneB; have X3 := @beqB; (repeat' (first | refine gg ?_ | (refine gd ?_ ?_ <;> (intro hcond; try (exfalso; omega))) | fail)); all_goals try clear X1 X2 X3))
    (have X1 := @GV.enc.eq_1; have X2 := @bneB; have X3 := @beqB; ((apply ar_call rfl ok_24); (focus exact eva); (focus exact hO2); (focus rfl); (focus rfl)); all_goals try clear X1 X2 X3)
    (all_goals (have X1 := @GV.enc.eq_1; have X2 := @bneB; have X3 := @beqB; (repeat' (first | refine gg ?_ | (refine gd ?_ ?_ <;> (intro hcond; try (exfalso; omega))) | fail)); all_goals try clear X1 X2 X3))
    (have X1 := @GV.enc.eq_1; have X2 := @bneB; have X3 := @beqB; ((apply ar_call rfl ok_24); (focus exact eva); (focus exact hO2); (focus rfl); (focus rfl)); all_goals try clear X1 X2 X3)
    (all_goals (have X1 := @GV.enc.eq_1; have X2 := @bneB; have X3 := @beqB; (repeat' (first | refine gg ?_ | (refine gd ?_ ?_ <;> (intro hcond; try (exfalso; omega))) | fail)); all_goals try clear X1 X2 X3))
    (have X1 := @GV.enc.eq_1; have X2 := @bneB; have X3 := @beqB; ((apply ar_call rfl ok_22); (focus exact eva); (focus exact hP); (focus rfl); (focus rfl)); all_goals try clear X1 X2 X3)
    (all_goals (have X1 := @GV.enc.eq_1; have X2 := @bneB; have X3 := @beqB; (repeat' (first | refine gg ?_ | (refine gd ?_ ?_ <;> (intro hcond; try (exfalso; omega))) | fail)); all_goals try clear X1 X2 X3))
    (have X1 := @GV.enc.eq_1; have X2 := @bneB; have X3 := @beqB; ((apply ar_call rfl ok_23); (focus exact eva); (focus exact hO1); (focus rfl); (focus rfl)); all_goals try clear X1 X2 X3)
    (all_goals (have X1 := @GV.enc.eq_1; have X2 := @bneB; have X3 := @beqB; (repeat' (first | refine gg ?_ | (refine gd ?_ ?_ <;> (intro hcond; try (exfalso; omega))) | fail)); all_goals try clear X1 X2 X3))
    (have X1 := @GV.enc.eq_1; have X2 := @bneB; have X3 := @beqB; ((apply ar_call rfl ok_24); (focus exact eva); (focus exact hO2); (focus rfl); (focus rfl)); all_goals try clear X1 X2 X3)
    (all_goals (have X1 := @GV.enc.eq_1; have X2 := @bneB; have X3 := @beqB; (repeat' (first | refine gg ?_ | (refine gd ?_ ?_ <;> (intro hcond; try (exfalso; omega))) | fail)); all_goals try clear X1 X2 X3))
    rfl
end Go.Av
set_option linter.unusedVariables false
set_option linter.unusedSimpArgs false
namespace Go.Av
open Go Go.Proofs.Ytfdafamjgnbecaa
set_option maxRecDepth 10000
theorem fnStoreSet_ok (bs : List UInt8) : PCall P 5 [.fsl 1 (byAV bs)] (.bool true) := by
  rcases Nat.lt_or_ge 1048576 bs.length with h | h
  · exact fnStoreSet_big bs h
  · exact fnStoreSet_law bs (by simp only [Len]; omega)
theorem build_list3 {X : Type} (Q : Nat → X → Prop) : ∀ (n : Nat), (∀ i, i < n → ∃ x, Q i x) → ∃ l : List X, l.length = n ∧ ∀ i, i < n → ∃ x, l[i]? = some x ∧ Q i x
  | 0, h => ⟨[], rfl, fun i hi => by omega⟩
  | n + 1, h => by
    obtain ⟨l, h1, h2⟩ := build_list3 Q n fun i hi => h i (by omega)
    obtain ⟨x, hx⟩ := h n (by omega)
    refine ⟨l ++ [x], by simp [h1], fun i hi => ?_⟩
    rcases Nat.lt_or_ge i n with h3 | h3
    · obtain ⟨y, h4, h5⟩ := h2 i h3
      exact ⟨y, by rw [List.getElem?_append_left (by omega)]; exact h4, h5⟩
    · have : i = n := by omega
      subst this
      exact ⟨x, by rw [List.getElem?_append_right (by omega)]; simp [h1], hx⟩
section
variable {H : Type} {enc : TypeId × Value → H} {w : World} {base : Nat} {sp : Nat → Bool} {held : Bool}
theorem rd_bytes {fuel : Nat} {cs : List Value} {d : DataW H} {p : List MemPlace} (h : DataW.trod enc P w base sp held fuel 43 cs = some (d, p)) : ∃ (bs : List UInt8) (v : Value), cs = [v] ∧ FRel (Kall w) w (.fsl 1 (byAV bs)) v := by
  cases fuel with
  | zero => simp [DataW.trod] at h
  | succ fuel =>
    rcases trodT_slice T_ok (T_43) rfl (T_5) h with ⟨rfl, rfl⟩ | ⟨a, len, cap, es, rest, rfl, rfl, hle, hlen, hi⟩
    · exact ⟨[], _, rfl, .fsl0 _ _ _⟩
    · obtain ⟨l, hl, hll⟩ := build_list3 (fun i (x : UInt8) => w.cells? base (a.add (i * 1)) 1 = some [.int .u8 x.toNat]) len fun i hil => by
        obtain ⟨c, y, h1, h2, h3⟩ := hi i hil
        obtain ⟨n, rfl, _, hn1, hn2⟩ := trodT_int T_ok (T_5) rfl h3
        refine ⟨UInt8.ofNat n.toNat, ?_⟩
        have hn1 : 0 ≤ n := hn1
        have hn2 : n ≤ 255 := hn2
        rw [UInt8.toNat_ofNat_of_lt' (by show _ < 256; omega), Int.toNat_of_nonneg hn1]
        exact h1
      refine ⟨l, _, rfl, frel_slice (by omega) (by omega) hle (by rw [byAV_len, hl]) fun i hil => ?_⟩
      obtain ⟨x, h1, h2⟩ := hll i hil
      obtain ⟨h6, h7⟩ := cells_get h2
      refine ⟨_, h7, h6, ?_⟩
      have e : (byAV l).getD i [] = [.int .u8 x.toNat] := by
        rw [byAV_get (by omega), List.getD_eq_getElem?_getD, h1]; rfl
      rw [e]
      exact ⟨rfl, fun j hj => by
        have : j = 0 := by simp at hj; exact hj
        subst this; exact ⟨.int _ _, rfl⟩⟩
end
end Go.Av
namespace Go.Proofs.Ytfdafamjgnbecaa
open Go Go.Av Go.ChangeShapes Go.WideShapes Go.ChangeAt Go.RowKit
set_option maxRecDepth 100000

theorem row3_own : ownKnob Try.prog.godebug = none := by kernel_rfl
theorem row3_laid : laidOutB Try.prog = true := by kernel_rfl
theorem row3_read : ∀ t ∈ Try.f5.params.toList, Try.prog.readableRec t = true ∧ t < Try.prog.types.size := by
  have h : (Try.f5.params.toList.all fun t => Try.prog.readableRec t && decide (t < Try.prog.types.size)) = true := by kernel_rfl
  intro t ht
  have := List.all_eq_true.1 h t ht
  simpa using this

theorem row3_contract (H : Type) (enc : TypeId × Value → H) (W : World) (args : Array Value) (base : Nat) (ds gs : List (DataW H)) (before : List MemPlace)
    (hval : ∀ (j : Nat) t v, Try.f5.params[j]? = some t → args[j]? = some v → Value.okWide Try.prog W .any base t v)
    (hW : DataW.Whole enc Try.prog Try.f5.params.toList Rows.fnStoreSetSpec.vars false W args.toList ds gs before) :
    Calls Try.prog 5 args W fun e W' => ∃ v, e = .returned v ∧ Rows.fnStoreSetSpec.post enc Try.prog Try.f5 false true false false W args v W' := by
  have hW' := hW
  obtain ⟨p, q, hA, hV, rfl, hz, hn⟩ := hW
  obtain ⟨rfl, rfl⟩ := trodVars_none hV
  rw [Try.params5] at hA
  obtain ⟨v0, vs0, d0, ds0, p0, q0, hargs, rfl, rfl, h0, r0⟩ := trodAll_cons hA
  obtain ⟨rfl, rfl, rfl⟩ := trodAll_nil r0
  obtain rfl : args = #[v0] := by cases args; simp_all
  obtain ⟨fuel, h0⟩ := h0
  obtain ⟨bs, v, hv1, hv2⟩ := rd_bytes h0
  have hv : v0 = v := by
    obtain ⟨a, len, cap, rfl⟩ := okWide_slice (P := Try.prog) Try.underlying43 (hval 0 43 v0 rfl rfl)
    exact (List.cons.inj hv1).1
  subst hv
  refine post_of_pcall (fnStoreSet_ok bs) rfl (fun i hi => ?_) row3_laid row3_read (by kernel_rfl) (tb := 4) (by kernel_rfl) rfl rfl hW'
  have : i = 0 := by simp at hi; exact hi
  subst this
  exact hv2

theorem row3_lifted (os : Os) (started : os.Started) (H : Type) (enc : TypeId × Value → H) :
    ReturnsInHanded {} Try.checked os 5 .any (Rows.fnStoreSetSpec.pre6 enc Try.prog Try.f5 Rows.fnStoreSetRow.domain false) (Rows.fnStoreSetSpec.post enc Try.prog Try.f5 false true false false) := by
  refine returnsInHanded_of_change (C := Try.checked) row3_own started (by kernel_rfl) Try.func5
    (ChangeSpec.witness6 (enc := enc) (C := Try.checked) false ⟨#[], #[.slice none 0 0], []⟩ 8 (by kernel_rfl) (by kernel_rfl) (by kernel_rfl) (by kernel_rfl)) ?_
  intro W base args ds gs before hval hW _ _
  exact row3_contract H enc W args base ds gs before hval hW

theorem fnStoreSet_holds : Rows.FnStoreSetSaid :=
  OpenClaim.holds_of_wide 5 Try.f5 rfl rfl rfl rfl rfl rfl rfl ⟨rfl, rfl, rfl, rfl, rfl⟩ rfl rfl rfl rfl rfl (by kernel_rfl) Try.func5 (by kernel_rfl)
    (of_decide_eq_true (by kernel_rfl)) (by unfold Func.isWrapper; first | (rw [if_pos (by decide +kernel)]; kernel_rfl) | (rw [if_neg (by decide +kernel)]; exact ⟨rfl, rfl⟩))
    (fun os started H enc _ => row3_lifted os started H enc)
#print axioms fnStoreSet_holds
end Go.Proofs.Ytfdafamjgnbecaa
