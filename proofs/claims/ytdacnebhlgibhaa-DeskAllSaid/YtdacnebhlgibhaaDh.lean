/- Own text: those who may are let have it, by the document. -/
import Derived.Test.YtdacnebhlgibhaaDg
set_option linter.unusedVariables false
set_option linter.unusedSimpArgs false
set_option linter.all false
set_option maxRecDepth 100000
set_option maxHeartbeats 2000000
namespace Go.Proofs.Ytdacnebhlgibhaa
open Go Go.Aw

def RD (d : Dk) : Prop := srt d.l ∧ (∀ y ∈ d.l, 1 ≤ y.c ∧ y.c ≤ 3) ∧ ∀ y ∈ d.w, 1 ≤ y.c ∧ y.c ≤ 3
theorem rd_prn {d : Dk} {now : Int} (h : RD d) : RD ⟨prn d.l now, d.w⟩ := ⟨srt_filter h.1, fun y hy => h.2.1 y (List.mem_filter.1 hy).1, h.2.2⟩
theorem rd_lets {d : Dk} {now : Int} {w : Wt} (h : RD d) (hw : w ∈ d.w) : RD (lets d now w) := by
  refine ⟨srt_gr2 h.1, fun y hy => ?_, fun y hy => h.2.2 y (mem_drop.1 hy).1⟩
  rcases mem_gr2 hy with h' | rfl | ⟨b, hb, _, rfl⟩
  · exact h.2.1 y h'
  · exact h.2.2 w hw
  · exact h.2.1 b hb
theorem find_first {α : Type} {p : α → Bool} {l : List α} {i : Nat} (hi : i < l.length) (h : ∀ k (hk : k < l.length), k < i → p l[k] = false) (hp : p l[i] = true) : l.find? p = some l[i] := by
  rw [List.find?_eq_some_iff_getElem]
  exact ⟨hp, i, hi, rfl, fun j hj => by simpa using h j (by omega) hj⟩
theorem find_no {α : Type} {p : α → Bool} {l : List α} (h : ∀ k (hk : k < l.length), p l[k] = false) : l.find? p = none := by
  rw [List.find?_eq_none]
  intro x hx
  obtain ⟨k, hk, rfl⟩ := List.getElem_of_mem hx
  simp [h k hk]
theorem tk_yes {l : List (Int × Int)} {p : Int × Int} {k : Nat} (h : p ∈ l.take k) : some (AV.sc (.bool true)) = some (AV.sc (.bool (decide (p ∈ l.take (k + 1))))) := by
  rw [decide_eq_true]
  rw [List.take_add_one]
  exact List.mem_append_left _ h
theorem tk_no {l : List (Int × Int)} {p : Int × Int} {k : Nat} (hk : k < l.length) (h : ¬ p ∈ l.take k) : some (AV.sc (.bool (decide (l[k] = p)))) = some (AV.sc (.bool (decide (p ∈ l.take (k + 1))))) := by
  have : (l[k] = p) ↔ p ∈ l.take (k + 1) := by
    rw [List.take_add_one, List.getElem?_eq_getElem hk, List.mem_append]
    constructor
    · intro e; right; simp [e]
    · rintro (h' | h')
      · exact absurd h' h
      · simp at h'; exact h'.symm
  simp only [this]
theorem memT {l : List (Int × Int)} {p : Int × Int} {k : Nat} (hk : l.length ≤ k) (h : p ∈ l.take k) : p ∈ l := by rwa [List.take_of_length_le hk] at h
theorem memF {l : List (Int × Int)} {p : Int × Int} {k : Nat} (hk : l.length ≤ k) (h : ¬ p ∈ l.take k) : ¬ p ∈ l := by rwa [List.take_of_length_le hk] at h

theorem rRun (d0 : Dk) (now : Int) (hr0 : RD d0) (hn0 : 0 ≤ now) (hn1 : now ≤ 1000000) (hl0 : d0.l.length ≤ 500) (hw0 : d0.w.length ≤ 400) : Pur Try.prog 19 [dk d0, .sc (.int .i64 now)] (runA (runOf d0 now) now) := by
  unfold dk
  refine acallsN Try.func19 rfl Try.ntmps19 rfl ?_
  refine aw_seq ?_
  refine aw_region ?_
  refine aops_cons rfl rfl (AOp.box rfl rfl rfl ?_); intro b1
  refine aops_cons rfl rfl (AOp.alloc Try.zeroValue30 (by kernel_rfl) rfl rfl ?_); intro b2
  refine aops_cons rfl rfl (AOp.assign rfl rfl ?_)
  refine aops_cons rfl rfl (AOp.assign rfl rfl ?_)
  refine aops_nil ?_
  refine aw_seq ?_
  refine aw_region ?_
  refine aops_cons rfl rfl (AOp.fieldB Try.underlying30 rfl Try.sizeOf27 (by decide) rfl rfl rfl ?_)
  refine aops_cons rfl rfl (AOp.load1 Try.isAgg27 rfl rfl (reads_box _ (.tail _ (.head _))) rfl ?_)
  refine aops_cons rfl rfl (AOp.move rfl rfl ?_)
  refine aops_cons rfl rfl (AOp.callP Try.call60 rfl rfl rfl (by exact rPrune d0.l now (by first | omega | (simp <;> omega) | (simp at * <;> omega))) ?_)
  refine aops_cons rfl rfl (AOp.fieldB Try.underlying30 rfl Try.sizeOf27 (by decide) rfl rfl rfl ?_)
  refine aops_cons rfl rfl (AOp.storeB' Try.sizeOf27 rfl rfl rfl rfl rfl (pull_there (pull_here _ _)) rfl rfl ?_)
  refine aops_nil ?_
  refine aw_seq ?_
  refine aw_region ?_
  refine aops_cons rfl rfl (AOp.assign rfl rfl ?_)
  refine aops_nil ?_
  refine aw_seq ?_
  refine aw_seq ?_
  refine aw_region ?_
  refine aops_cons rfl rfl (AOp.assign rfl rfl ?_)
  refine aops_nil ?_
  refine aw_block ?_
  refine aw_loop (β := Nat × Nat × Dk × List Wt × Value) (S := (fun (z0 : Nat × Nat × Dk × List Wt × Value) => match z0 with | (i, n, d, acc, wl) => [(1, .sc (.int .i64 now)), (2, .sc (.pointer (some ⟨b1, 0, none⟩))), (4, .sc (.pointer (some ⟨b2, 0, none⟩))), (5, .sc (.slice none 0 0)), (6, .sc (.slice none 0 0)), (7, .sc wl), (8, .sc (.int .i64 (i : Int)))])) (B := (fun (z0 : Nat × Nat × Dk × List Wt × Value) => match z0 with | (i, n, d, acc, wl) => [.box b1 30 d.e, .box b2 30 [.sc (.slice none 0 0), .sc (.slice none 0 0)], .row wl 25 4 (acc.map Wt.e)])) (pre := (fun (z0 : Nat × Nat × Dk × List Wt × Value) => match z0 with | (i, n, d, acc, wl) => d.w.length ≤ n ∧ runD now n d acc = runOf d0 now ∧ RD d ∧ d.l.length + d.w.length ≤ 900 ∧ acc.length + d.w.length ≤ 400 ∧ i ≤ d.w.length ∧ ∀ k (hk : k < d.w.length), k < i → free d now d.w[k] = false)) (μ := (fun (z0 : Nat × Nat × Dk × List Wt × Value) => match z0 with | (i, n, d, acc, wl) => n * 1000 + (500 - i))) (0, d0.w.length, ⟨prn d0.l now, d0.w⟩, [], .slice none 0 0) ((wk_nil 25 4).trans ((wk_perm ((List.Perm.swap _ _ _).trans (List.Perm.cons _ (List.Perm.swap _ _ _)))).trans (wk_env (sube_cons rfl (sube_cons rfl (sube_cons rfl (sube_cons rfl (sube_cons rfl (sube_cons rfl (sube_cons rfl (sube_nil _))))))))))) ?_ ?_
  · exact ⟨Nat.le_refl _, rfl, rd_prn hr0, by have := prn_len d0.l now; dsimp only; omega, by simp; omega, Nat.zero_le _, fun k hk h => by omega⟩
  · rintro ⟨i, n, d, acc, wl⟩ ⟨hn, hR, hr, hlen, hacc, hi, ha⟩
    change AW _ _ _ ([(1, .sc (.int .i64 now)), (2, .sc (.pointer (some ⟨b1, 0, none⟩))), (4, .sc (.pointer (some ⟨b2, 0, none⟩))), (5, .sc (.slice none 0 0)), (6, .sc (.slice none 0 0)), (7, .sc wl), (8, .sc (.int .i64 (i : Int)))] : Env) ([.box b1 30 d.e, .box b2 30 [.sc (.slice none 0 0), .sc (.slice none 0 0)], .row wl 25 4 (acc.map Wt.e)] : List Blk) _
    refine aw_seq ?_
    refine aw_seq ?_
    refine aw_region ?_
    refine aops_cons rfl rfl (AOp.move rfl rfl ?_)
    refine aops_cons rfl rfl (AOp.fieldB Try.underlying30 rfl Try.sizeOf28 (by decide) rfl rfl rfl ?_)
    refine aops_cons rfl rfl (AOp.load1 Try.isAgg28 rfl rfl (reads_box _ (.head _)) rfl ?_)
    refine aops_cons rfl rfl (AOp.lenS (by first | exact List.length_map _ | rfl) Try.underlying28 rfl rfl ?_)
    refine aops_cons rfl rfl (AOp.lss rfl rfl rfl ?_)
    refine aops_nil ?_
    refine aw_cond _ rfl (fun h1 => ?_) (fun h1 => ?_)
    focus
      have h1_ := h1
      try simp only [List.length_map, List.length_cons, List.length_nil, nrm] at h1
      all_goals try (exfalso; first | contradiction | (simp at h1_; done) | omega)
      all_goals
        refine aw_skip ?_
        skip
    rotate_right
    focus
      have h1_ := h1
      try simp only [List.length_map, List.length_cons, List.length_nil, nrm] at h1
      all_goals try (exfalso; first | contradiction | (simp at h1_; done) | omega)
      all_goals
        refine aw_exit ?_
        refine aw_seq ?_
        have hst : runD now n d acc = (d, acc) := runD_stop n acc (find_no (fun k hk => ha k hk (by omega)))
        rw [hst] at hR
        refine aw_region ?_
        refine aops_cons rfl rfl (AOp.assign rfl rfl ?_)
        refine aops_nil ?_
        refine aw_seq ?_
        refine aw_seq ?_
        refine aw_region ?_
        refine aops_cons rfl rfl (AOp.assign rfl rfl ?_)
        refine aops_nil ?_
        refine aw_block ?_
        refine aw_loop (β := Nat × Value) (S := (fun (z0 : Nat × Value) => match z0 with | (i, w2) => [(1, .sc (.int .i64 now)), (2, .sc (.pointer (some ⟨b1, 0, none⟩))), (4, .sc (.pointer (some ⟨b2, 0, none⟩))), (5, .sc (.slice none 0 0)), (6, .sc (.slice none 0 0)), (7, .sc wl), (10, .sc w2), (11, .sc (.int .i64 (i : Int)))])) (B := (fun (z0 : Nat × Value) => match z0 with | (i, w2) => [.row w2 41 2 ((callsF d now (d.w.take i) []).map pe), .box b1 30 d.e, .box b2 30 [.sc (.slice none 0 0), .sc (.slice none 0 0)], .row wl 25 4 (acc.map Wt.e)])) (pre := (fun (z0 : Nat × Value) => match z0 with | (i, w2) => i ≤ d.w.length ∧ (callsF d now (d.w.take i) []).length ≤ i * 1000)) (μ := (fun (z0 : Nat × Value) => match z0 with | (i, w2) => d.w.length - i)) (0, .slice none 0 0) ((wk_nil 41 2).trans (wk_env (sube_cons rfl (sube_cons rfl (sube_cons rfl (sube_cons rfl (sube_cons rfl (sube_cons rfl (sube_cons rfl (sube_cons rfl (sube_nil _))))))))))) ?_ ?_
        · exact ⟨Nat.zero_le _, Nat.le_refl _⟩
        · rintro ⟨i, w2⟩ ⟨hi, hcl⟩
          change AW _ _ _ ([(1, .sc (.int .i64 now)), (2, .sc (.pointer (some ⟨b1, 0, none⟩))), (4, .sc (.pointer (some ⟨b2, 0, none⟩))), (5, .sc (.slice none 0 0)), (6, .sc (.slice none 0 0)), (7, .sc wl), (10, .sc w2), (11, .sc (.int .i64 (i : Int)))] : Env) ([.row w2 41 2 ((callsF d now (d.w.take i) []).map pe), .box b1 30 d.e, .box b2 30 [.sc (.slice none 0 0), .sc (.slice none 0 0)], .row wl 25 4 (acc.map Wt.e)] : List Blk) _
          refine aw_seq ?_
          refine aw_seq ?_
          refine aw_region ?_
          refine aops_cons rfl rfl (AOp.move rfl rfl ?_)
          refine aops_cons rfl rfl (AOp.fieldB Try.underlying30 rfl Try.sizeOf28 (by decide) rfl rfl rfl ?_)
          refine aops_cons rfl rfl (AOp.load1 Try.isAgg28 rfl rfl (reads_box _ (.tail _ (.head _))) rfl ?_)
          refine aops_cons rfl rfl (AOp.lenS (by first | exact List.length_map _ | rfl) Try.underlying28 rfl rfl ?_)
          refine aops_cons rfl rfl (AOp.lss rfl rfl rfl ?_)
          refine aops_nil ?_
          refine aw_cond _ rfl (fun h2 => ?_) (fun h2 => ?_)
          focus
            have h2_ := h2
            try simp only [List.length_map, List.length_cons, List.length_nil, nrm] at h2
            all_goals try (exfalso; first | contradiction | (simp at h2_; done) | omega)
            all_goals
              refine aw_skip ?_
              skip
          rotate_right
          focus
            have h2_ := h2
            try simp only [List.length_map, List.length_cons, List.length_nil, nrm] at h2
            all_goals try (exfalso; first | contradiction | (simp at h2_; done) | omega)
            all_goals
              refine aw_exit ?_
              refine aw_seq ?_
              refine aw_region ?_
              refine aops_cons rfl rfl (AOp.loadN Try.isAgg30 Try.sizeOf30 rfl rfl (reads_box _ (.tail _ (.head _))) rfl rfl ?_)
              refine aops_cons rfl rfl (AOp.move rfl rfl ?_)
              refine aops_cons rfl rfl (AOp.move rfl rfl ?_)
              refine aops_cons rfl rfl (AOp.storeB' Try.sizeOf30 rfl rfl rfl rfl rfl (pull_there (pull_there (pull_here _ _))) rfl rfl ?_)
              refine aops_cons rfl rfl (AOp.assign rfl rfl ?_)
              refine aops_cons rfl rfl (AOp.assign rfl rfl ?_)
              refine aops_nil ?_
              refine aw_weak ((wk_frz (pull_there (pull_here _ _)) (.keep _ (.keep _ (.keep _ .nil))) (subz_cons (s := 4) rfl (fz_id _ _ _) (subz_cons (s := 5) rfl (fz_id _ _ _) (subz_cons (s := 6) rfl (fz_row _ _) (subz_nil _ _ _))))).trans (wk_frz (pull_there (pull_there (pull_here _ _))) (.keep _ (.keep _ .nil)) (subz_cons (s := 4) rfl (fz_id _ _ _) (subz_cons (s := 5) rfl (fz_row _ _) (subz_cons (s := 6) rfl (fz_id _ _ _) (subz_nil _ _ _)))))) ?_
              refine aw_weak (wk_imm (pull_here _ _) (subf_new (s := 4) rfl (subf_cons (s := 5) rfl (subf_cons (s := 6) rfl (subf_nil _ _ _))))) ?_
              refine aw_weak (wk_drop (List.nil_sublist _)) ?_
              refine aw_ret ?_
              refine ⟨_, (resV3 Try.results19 (RV.cellN _ _ _ _ _ _ Try.isAgg30 Try.sizeOf30 rfl (reads_im _ _) rfl rfl) (RV.tmp _ _ rfl) (RV.tmp _ _ rfl)), ?_⟩
              have hi' : i = d.w.length := by omega
              subst hi'
              rw [List.take_of_length_le (Nat.le_refl _)]
              rw [← hR]
              exact ⟨rfl, rfl⟩
          all_goals
            refine aw_seq ?_
            refine aw_block ?_
            refine aw_seq ?_
            refine aw_region ?_
            refine aops_cons rfl rfl (AOp.fieldB Try.underlying30 rfl Try.sizeOf28 (by decide) rfl rfl rfl ?_)
            refine aops_cons rfl rfl (AOp.load1 Try.isAgg28 rfl rfl (reads_box _ (.tail _ (.head _))) rfl ?_)
            refine aops_cons rfl rfl (AOp.move rfl rfl ?_)
            refine aops_cons rfl rfl (AOp.indexLN Try.underlying28 Try.sizeOf25 rfl rfl rfl (by first | omega | (simp <;> omega) | (simp at * <;> omega)) (fun _ => rfl) ?_)
            refine aops_cons rfl rfl (AOp.loadN Try.isAgg25 Try.sizeOf25 rfl rfl (reads_im _ _) rfl rfl ?_)
            refine aops_cons rfl rfl (AOp.alloc Try.zeroValue25 (by kernel_rfl) rfl rfl ?_); intro b3
            refine aops_cons rfl rfl (AOp.storeB' Try.sizeOf25 rfl rfl rfl rfl rfl (pull_here _ _) rfl rfl ?_)
            refine aops_nil ?_
            refine aw_seq ?_
            refine aw_region ?_
            refine aops_cons rfl rfl (AOp.fieldB Try.underlying30 rfl Try.sizeOf27 (by decide) rfl rfl rfl ?_)
            refine aops_cons rfl rfl (AOp.load1 Try.isAgg27 rfl rfl (reads_box _ (.tail _ (.tail _ (.head _)))) rfl ?_)
            refine aops_cons rfl rfl (AOp.move rfl rfl ?_)
            refine aops_cons rfl rfl (AOp.fieldB Try.underlying25 rfl Try.sizeOf3 (by decide) rfl rfl rfl ?_)
            refine aops_cons rfl rfl (AOp.load1 Try.isAgg3 rfl rfl (reads_box _ (.head _)) rfl ?_)
            refine aops_cons rfl rfl (AOp.fieldB Try.underlying25 rfl Try.sizeOf3 (by decide) rfl rfl rfl ?_)
            refine aops_cons rfl rfl (AOp.load1 Try.isAgg3 rfl rfl (reads_box _ (.head _)) rfl ?_)
            refine aops_cons rfl rfl (AOp.fieldB Try.underlying25 rfl Try.sizeOf3 (by decide) rfl rfl rfl ?_)
            refine aops_cons rfl rfl (AOp.load1 Try.isAgg3 rfl rfl (reads_box _ (.head _)) rfl ?_)
            refine aops_cons rfl rfl (AOp.callP Try.call63 rfl rfl rfl (by exact rClash d.l now _ _ _ hr.1 hr.2.1 (by first | omega | (simp <;> omega) | (simp at * <;> omega))) ?_)
            refine aops_cons rfl rfl (AOp.assign rfl rfl ?_)
            refine aops_nil ?_
            refine aw_seq ?_
            refine aw_region ?_
            refine aops_cons rfl rfl (AOp.assign rfl rfl ?_)
            refine aops_nil ?_
            refine aw_block ?_
            refine aw_loop (β := Nat × Value) (S := (fun (z0 : Nat × Value) => match z0 with | (j, w3) => [(1, .sc (.int .i64 now)), (2, .sc (.pointer (some ⟨b1, 0, none⟩))), (4, .sc (.pointer (some ⟨b2, 0, none⟩))), (5, .sc (.slice none 0 0)), (6, .sc (.slice none 0 0)), (7, .sc wl), (10, .sc w3), (11, .sc (.int .i64 (i : Int))), (12, .sc (.pointer (some ⟨b3, 0, none⟩))), (13, ints (cls d.l now d.w[i].c d.w[i].f d.w[i].m)), (14, .sc (.int .i64 (j : Int)))])) (B := (fun (z0 : Nat × Value) => match z0 with | (j, w3) => [.row w3 41 2 ((addC d.w[i].f ((cls d.l now d.w[i].c d.w[i].f d.w[i].m).take j) (callsF d now (d.w.take i) [])).map pe), .box b3 25 (Wt.e d.w[i]), .box b1 30 d.e, .box b2 30 [.sc (.slice none 0 0), .sc (.slice none 0 0)], .row wl 25 4 (acc.map Wt.e)])) (pre := (fun (z0 : Nat × Value) => match z0 with | (j, w3) => j ≤ (cls d.l now d.w[i].c d.w[i].f d.w[i].m).length)) (μ := (fun (z0 : Nat × Value) => match z0 with | (j, w3) => (cls d.l now d.w[i].c d.w[i].f d.w[i].m).length - j)) (0, _) ((wk_perm (List.Perm.swap _ _ _)).trans (wk_env (sube_cons rfl (sube_cons rfl (sube_cons rfl (sube_cons rfl (sube_cons rfl (sube_cons rfl (sube_cons rfl (sube_cons rfl (sube_cons rfl (sube_cons rfl (sube_cons rfl (sube_nil _)))))))))))))) ?_ ?_
            · exact Nat.zero_le _
            · rintro ⟨j, w3⟩ hj
              change AW _ _ _ ([(1, .sc (.int .i64 now)), (2, .sc (.pointer (some ⟨b1, 0, none⟩))), (4, .sc (.pointer (some ⟨b2, 0, none⟩))), (5, .sc (.slice none 0 0)), (6, .sc (.slice none 0 0)), (7, .sc wl), (10, .sc w3), (11, .sc (.int .i64 (i : Int))), (12, .sc (.pointer (some ⟨b3, 0, none⟩))), (13, ints (cls d.l now d.w[i].c d.w[i].f d.w[i].m)), (14, .sc (.int .i64 (j : Int)))] : Env) ([.row w3 41 2 ((addC d.w[i].f ((cls d.l now d.w[i].c d.w[i].f d.w[i].m).take j) (callsF d now (d.w.take i) [])).map pe), .box b3 25 (Wt.e d.w[i]), .box b1 30 d.e, .box b2 30 [.sc (.slice none 0 0), .sc (.slice none 0 0)], .row wl 25 4 (acc.map Wt.e)] : List Blk) _
              replace hj : j ≤ (cls d.l now d.w[i].c d.w[i].f d.w[i].m).length := hj
              have hal := addC_len d.w[i].f ((cls d.l now d.w[i].c d.w[i].f d.w[i].m).take j) (callsF d now (d.w.take i) [])
              rw [List.length_take] at hal
              have hcls := len_cls d.l now d.w[i].c d.w[i].f d.w[i].m
              refine aw_seq ?_
              refine aw_seq ?_
              refine aw_region ?_
              refine aops_cons rfl rfl (AOp.move rfl rfl ?_)
              refine aops_cons rfl rfl (AOp.move rfl rfl ?_)
              refine aops_cons rfl rfl (AOp.lenS (by first | exact List.length_map _ | rfl) Try.underlying42 rfl rfl ?_)
              refine aops_cons rfl rfl (AOp.lss rfl rfl rfl ?_)
              refine aops_nil ?_
              refine aw_cond _ rfl (fun h3 => ?_) (fun h3 => ?_)
              focus
                have h3_ := h3
                try simp only [List.length_map, List.length_cons, List.length_nil, nrm] at h3
                all_goals try (exfalso; first | contradiction | (simp at h3_; done) | omega)
                all_goals
                  refine aw_skip ?_
                  skip
              rotate_right
              focus
                have h3_ := h3
                try simp only [List.length_map, List.length_cons, List.length_nil, nrm] at h3
                all_goals try (exfalso; first | contradiction | (simp at h3_; done) | omega)
                all_goals
                  refine aw_exit ?_
                  refine aw_region ?_
                  refine aops_cons rfl rfl (AOp.move rfl rfl ?_)
                  refine aops_cons rfl rfl (AOp.addE rfl rfl rfl (by first | omega | (simp <;> omega) | (simp at * <;> omega)) (by first | omega | (simp <;> omega) | (simp at * <;> omega)) ?_)
                  refine aops_cons rfl rfl (AOp.assign rfl rfl ?_)
                  refine aops_nil ?_
                  have hj' : j = (cls d.l now d.w[i].c d.w[i].f d.w[i].m).length := by omega
                  refine ⟨(i + 1, _), ⟨by omega, ?_⟩, ?_, (wk_drop (A' := [.row w3 41 2 ((addC d.w[i].f ((cls d.l now d.w[i].c d.w[i].f d.w[i].m).take j) (callsF d now (d.w.take i) [])).map pe), .box b1 30 d.e, .box b2 30 [.sc (.slice none 0 0), .sc (.slice none 0 0)], .row wl 25 4 (acc.map Wt.e)]) ?_).trans ((wk_roweq (A := [.box b1 30 d.e, .box b2 30 [.sc (.slice none 0 0), .sc (.slice none 0 0)], .row wl 25 4 (acc.map Wt.e)]) (?_)).trans (wk_env (sube_cons rfl (sube_cons rfl (sube_cons rfl (sube_cons rfl (sube_cons rfl (sube_cons rfl (sube_cons rfl (sube_cons rfl (sube_nil _)))))))))))⟩
                  rotate_right
                  · rw [hj', List.take_of_length_le (Nat.le_refl _), callsF_step (by omega)]
                  · rw [callsF_step (by omega)]; have := addC_len d.w[i].f (cls d.l now d.w[i].c d.w[i].f d.w[i].m) (callsF d now (d.w.take i) []); have := len_cls d.l now d.w[i].c d.w[i].f d.w[i].m; omega
                  · dsimp only; omega
                  · (focus ((repeat (first | exact List.Sublist.slnil | apply List.Sublist.cons_cons | apply List.Sublist.cons)); done))
              all_goals
                refine aw_seq ?_
                refine aw_block ?_
                refine aw_seq ?_
                refine aw_drawM (fun A0 => Blk.box b3 25 (Wt.e d.w[i]) ∈ A0) (by first | exact .head _ | exact .tail _ (.head _) | exact .tail _ (.tail _ (.head _)) | exact .tail _ (.tail _ (.tail _ (.head _)))) [1, 1, 1, 1, 1, 1, 1, 5, 5] (by kernel_rfl) (by kernel_rfl) ?_
                refine q_go1 _ rfl (fun _ _ => AOp.fieldB Try.underlying25 rfl Try.sizeOf3 (by decide) rfl rfl rfl ⟨rfl, rfl⟩) ?_
                refine q_go1 _ rfl (fun _ hA0 => AOp.load1 Try.isAgg3 rfl rfl (reads_box _ hA0) rfl ⟨rfl, rfl⟩) ?_
                refine q_go1 _ rfl (fun _ _ => AOp.move rfl rfl ⟨rfl, rfl⟩) ?_
                refine q_go1 _ rfl (fun _ _ => AOp.move rfl rfl ⟨rfl, rfl⟩) ?_
                refine q_go1 _ rfl (fun _ _ => AOp.indexLN Try.underlying42 Try.sizeOf3 rfl rfl rfl (by first | omega | (simp <;> omega) | (simp at * <;> omega)) (fun _ => rfl) ⟨rfl, rfl⟩) ?_
                refine q_go1 _ rfl (fun _ _ => AOp.load1 Try.isAgg3 rfl rfl (reads_im _ _) rfl ⟨rfl, rfl⟩) ?_
                refine q_go1 _ rfl (fun _ _ => AOp.buildA Try.zeroValue41 (by kernel_rfl) Try.underlying41 Try.sizeOf3 rfl rfl rfl rfl ⟨rfl, rfl⟩) ?_
                refine q_over ?_
                refine q_over ?_
                refine q_nil ?_
                refine c_over (by decide) ?_
                refine c_over (by decide) ?_
                refine c_over (by decide) ?_
                refine c_over (by decide) ?_
                refine c_over (by decide) ?_
                refine c_over (by decide) ?_
                refine c_over (by decide) ?_
                refine c_go rfl (AOp.alloc Try.zeroValue41 (by kernel_rfl) rfl rfl ?_); intro b4; refine ⟨(by first | exact .head _ | exact .tail _ (.head _) | exact .tail _ (.tail _ (.head _)) | exact .tail _ (.tail _ (.tail _ (.head _)))), ?_⟩
                refine c_go rfl (AOp.storeB' Try.sizeOf41 rfl rfl rfl rfl rfl (pull_here _ _) rfl rfl ⟨(by first | exact .head _ | exact .tail _ (.head _) | exact .tail _ (.tail _ (.head _)) | exact .tail _ (.tail _ (.tail _ (.head _)))), ?_⟩)
                refine c_nil ?_
                refine aw_seq ?_
                refine aw_region ?_
                refine aops_cons rfl rfl (AOp.assign rfl rfl ?_)
                refine aops_nil ?_
                refine aw_seq ?_
                refine aw_seq ?_
                refine aw_region ?_
                refine aops_cons rfl rfl (AOp.assign rfl rfl ?_)
                refine aops_nil ?_
                refine aw_block ?_
                refine aw_loop (β := Nat) (S := (fun (z0 : Nat) => match z0 with | k => [(1, .sc (.int .i64 now)), (2, .sc (.pointer (some ⟨b1, 0, none⟩))), (4, .sc (.pointer (some ⟨b2, 0, none⟩))), (5, .sc (.slice none 0 0)), (6, .sc (.slice none 0 0)), (7, .sc wl), (10, .sc w3), (11, .sc (.int .i64 (i : Int))), (12, .sc (.pointer (some ⟨b3, 0, none⟩))), (13, ints (cls d.l now d.w[i].c d.w[i].f d.w[i].m)), (14, .sc (.int .i64 (j : Int))), (15, .sc (.pointer (some ⟨b4, 0, none⟩))), (16, .sc (.bool (decide ((d.w[i].f, (cls d.l now d.w[i].c d.w[i].f d.w[i].m)[j]) ∈ (addC d.w[i].f ((cls d.l now d.w[i].c d.w[i].f d.w[i].m).take j) (callsF d now (d.w.take i) [])).take k)))), (17, .sc (.int .i64 (k : Int)))])) (B := (fun (z0 : Nat) => match z0 with | k => [.box b4 41 (pe (d.w[i].f, (cls d.l now d.w[i].c d.w[i].f d.w[i].m)[j])), .row w3 41 2 ((addC d.w[i].f ((cls d.l now d.w[i].c d.w[i].f d.w[i].m).take j) (callsF d now (d.w.take i) [])).map pe), .box b3 25 (Wt.e d.w[i]), .box b1 30 d.e, .box b2 30 [.sc (.slice none 0 0), .sc (.slice none 0 0)], .row wl 25 4 (acc.map Wt.e)])) (pre := (fun (z0 : Nat) => match z0 with | k => k ≤ (addC d.w[i].f ((cls d.l now d.w[i].c d.w[i].f d.w[i].m).take j) (callsF d now (d.w.take i) [])).length)) (μ := (fun (z0 : Nat) => match z0 with | k => (addC d.w[i].f ((cls d.l now d.w[i].c d.w[i].f d.w[i].m).take j) (callsF d now (d.w.take i) [])).length - k)) 0 (wk_env (sube_cons rfl (sube_cons rfl (sube_cons rfl (sube_cons rfl (sube_cons rfl (sube_cons rfl (sube_cons rfl (sube_cons rfl (sube_cons rfl (sube_cons rfl (sube_cons rfl (sube_cons rfl (sube_cons rfl (sube_cons rfl (sube_nil _)))))))))))))))) ?_ ?_
                · exact Nat.zero_le _
                · rintro k hk
                  change AW _ _ _ ([(1, .sc (.int .i64 now)), (2, .sc (.pointer (some ⟨b1, 0, none⟩))), (4, .sc (.pointer (some ⟨b2, 0, none⟩))), (5, .sc (.slice none 0 0)), (6, .sc (.slice none 0 0)), (7, .sc wl), (10, .sc w3), (11, .sc (.int .i64 (i : Int))), (12, .sc (.pointer (some ⟨b3, 0, none⟩))), (13, ints (cls d.l now d.w[i].c d.w[i].f d.w[i].m)), (14, .sc (.int .i64 (j : Int))), (15, .sc (.pointer (some ⟨b4, 0, none⟩))), (16, .sc (.bool (decide ((d.w[i].f, (cls d.l now d.w[i].c d.w[i].f d.w[i].m)[j]) ∈ (addC d.w[i].f ((cls d.l now d.w[i].c d.w[i].f d.w[i].m).take j) (callsF d now (d.w.take i) [])).take k)))), (17, .sc (.int .i64 (k : Int)))] : Env) ([.box b4 41 (pe (d.w[i].f, (cls d.l now d.w[i].c d.w[i].f d.w[i].m)[j])), .row w3 41 2 ((addC d.w[i].f ((cls d.l now d.w[i].c d.w[i].f d.w[i].m).take j) (callsF d now (d.w.take i) [])).map pe), .box b3 25 (Wt.e d.w[i]), .box b1 30 d.e, .box b2 30 [.sc (.slice none 0 0), .sc (.slice none 0 0)], .row wl 25 4 (acc.map Wt.e)] : List Blk) _
                  replace hk : k ≤ (addC d.w[i].f ((cls d.l now d.w[i].c d.w[i].f d.w[i].m).take j) (callsF d now (d.w.take i) [])).length := hk
                  refine aw_seq ?_
                  refine aw_seq ?_
                  refine aw_region ?_
                  refine aops_cons rfl rfl (AOp.move rfl rfl ?_)
                  refine aops_cons rfl rfl (AOp.move rfl rfl ?_)
                  refine aops_cons rfl rfl (AOp.lenR (by first | exact List.length_map _ | rfl) Try.underlying37 (.tail _ (.head _)) rfl rfl ?_)
                  refine aops_cons rfl rfl (AOp.lss rfl rfl rfl ?_)
                  refine aops_nil ?_
                  refine aw_cond _ rfl (fun h4 => ?_) (fun h4 => ?_)
                  focus
                    have h4_ := h4
                    try simp only [List.length_map, List.length_cons, List.length_nil, nrm] at h4
                    all_goals try (exfalso; first | contradiction | (simp at h4_; done) | omega)
                    all_goals
                      refine aw_skip ?_
                      skip
                  rotate_right
                  focus
                    have h4_ := h4
                    try simp only [List.length_map, List.length_cons, List.length_nil, nrm] at h4
                    all_goals try (exfalso; first | contradiction | (simp at h4_; done) | omega)
                    all_goals
                      refine aw_exit ?_
                      refine aw_seq ?_
                      refine aw_region ?_
                      refine aops_cons rfl rfl (AOp.move rfl rfl ?_)
                      refine aops_cons rfl rfl (AOp.not rfl rfl ?_)
                      refine aops_nil ?_
                      refine aw_cond _ rfl (fun h5 => ?_) (fun h5 => ?_)
                      focus
                        have h5_ := h5
                        try simp only [List.length_map, List.length_cons, List.length_nil, nrm] at h5
                        all_goals try (exfalso; first | contradiction | (simp at h5_; done) | omega)
                        all_goals
                          refine aw_region ?_
                          refine aops_cons rfl rfl (AOp.move rfl rfl ?_)
                          refine aops_cons rfl rfl (AOp.loadN Try.isAgg41 Try.sizeOf41 rfl rfl (reads_box _ (.head _)) rfl rfl ?_)
                          refine aops_cons rfl rfl (AOp.buildS' Try.underlying37 Try.sizeOf41 Try.zeroValue41 rfl rfl rfl rfl rfl rfl rfl rfl rfl rfl rfl ?_)
                          (refine aops_cons rfl rfl (AOp.append' (bytes := 16) Try.zeroValue41 Try.sizeOf41 Try.underlying37 (by kernel_rfl) rfl rfl rfl (pull_there (pull_here _ _)) rfl (src_sl Try.underlying37 (all_len rfl)) (by first | omega | (simp <;> omega) | (simp at * <;> omega)) (by decide) ?_); intro b5)
                          refine aops_cons rfl rfl (AOp.assign rfl rfl ?_)
                          refine aops_nil ?_
                          skip
                      rotate_right
                      focus
                        have h5_ := h5
                        try simp only [List.length_map, List.length_cons, List.length_nil, nrm] at h5
                        all_goals try (exfalso; first | contradiction | (simp at h5_; done) | omega)
                        all_goals
                          refine aw_skip ?_
                          skip
                      all_goals
                        refine aw_region ?_
                        refine aops_cons rfl rfl (AOp.move rfl rfl ?_)
                        refine aops_cons rfl rfl (AOp.addE rfl rfl rfl (by first | omega | (simp <;> omega) | (simp at * <;> omega)) (by first | omega | (simp <;> omega) | (simp at * <;> omega)) ?_)
                        refine aops_cons rfl rfl (AOp.assign rfl rfl ?_)
                        refine aops_nil ?_
                        first
                        | (refine ⟨(j + 1, _), ?_, ?_, (wk_drop ?_).trans ((wk_roweq (addC_new (by omega) (memF (k := k) (by omega) (by assumption)))).trans (wk_env (sube_cons rfl (sube_cons rfl (sube_cons rfl (sube_cons rfl (sube_cons rfl (sube_cons rfl (sube_cons rfl (sube_cons rfl (sube_cons rfl (sube_cons rfl (sube_cons rfl (sube_nil _))))))))))))))⟩; (dsimp only; omega); (dsimp only; omega); (focus ((repeat (first | exact List.Sublist.slnil | apply List.Sublist.cons_cons | apply List.Sublist.cons)); done)))
                        | (refine ⟨(j + 1, _), ?_, ?_, (wk_drop ?_).trans ((wk_roweq (addC_in (by omega) (memT (k := k) (by omega) (by assumption)))).trans (wk_env (sube_cons rfl (sube_cons rfl (sube_cons rfl (sube_cons rfl (sube_cons rfl (sube_cons rfl (sube_cons rfl (sube_cons rfl (sube_cons rfl (sube_cons rfl (sube_cons rfl (sube_nil _))))))))))))))⟩; (dsimp only; omega); (dsimp only; omega); (focus ((repeat (first | exact List.Sublist.slnil | apply List.Sublist.cons_cons | apply List.Sublist.cons)); done)))
                  all_goals
                    refine aw_seq ?_
                    refine aw_block ?_
                    refine aw_draw 7 [0, 0, 0, 0, 0, 0, 0] (by kernel_rfl) (by kernel_rfl) ?_
                    refine psq_cons _ rfl (core0 (AOp.move rfl rfl ⟨rfl, rfl⟩)) ?_
                    refine psq_cons _ rfl (core0 (AOp.move rfl rfl ⟨rfl, rfl⟩)) ?_
                    refine psq_guard 1 false 90 _ rfl rfl rfl rfl (fun g6 => ?_) (fun g6 => ?_)
                    focus
                      have g6_ := g6
                      try simp only [List.length_map, List.length_cons, List.length_nil, nrm] at g6
                      all_goals try (exfalso; first | contradiction | (simp at g6_; done) | omega)
                      all_goals
                        refine psg _ (core0 (AOp.move rfl rfl ⟨rfl, rfl⟩)) ?_
                        refine psq_guard 1 false 90 _ rfl rfl rfl rfl (fun _ => ?_) (fun hh => by exfalso; first | (rw [g6_] at hh; exact absurd hh (by decide)) | (revert hh; simp [g6_]))
                        refine psg _ (core0 (AOp.move rfl rfl ⟨rfl, rfl⟩)) ?_
                        refine psq_guard 1 false 90 _ rfl rfl rfl rfl (fun _ => ?_) (fun hh => by exfalso; first | (rw [g6_] at hh; exact absurd hh (by decide)) | (revert hh; simp [g6_]))
                        refine psg _ (core0 (AOp.indexR Try.underlying37 Try.sizeOf41 (.tail _ (.head _)) rfl rfl rfl (by first | omega | (simp <;> omega) | (simp at * <;> omega)) (by first | omega | (simp <;> omega) | (simp at * <;> omega)) ⟨rfl, rfl⟩)) ?_
                        refine psq_guard 1 false 90 _ rfl rfl rfl rfl (fun _ => ?_) (fun hh => by exfalso; first | (rw [g6_] at hh; exact absurd hh (by decide)) | (revert hh; simp [g6_]))
                        refine psg _ (core0 (AOp.loadN Try.isAgg41 Try.sizeOf41 rfl rfl (reads_row _ (.tail _ (.head _)) (idx_nat (by first | omega | (simp <;> omega) | (simp at * <;> omega))) (by first | omega | (simp <;> omega) | (simp at * <;> omega))) rfl rfl ⟨rfl, rfl⟩)) ?_
                        refine psq_guard 1 false 90 _ rfl rfl rfl rfl (fun _ => ?_) (fun hh => by exfalso; first | (rw [g6_] at hh; exact absurd hh (by decide)) | (revert hh; simp [g6_]))
                        refine psg _ (core0 (AOp.loadN Try.isAgg41 Try.sizeOf41 rfl rfl (reads_box _ (.head _)) rfl rfl ⟨rfl, rfl⟩)) ?_
                    rotate_right
                    focus
                      have g6_ := g6
                      try simp only [List.length_map, List.length_cons, List.length_nil, nrm] at g6
                      all_goals try (exfalso; first | contradiction | (simp at g6_; done) | omega)
                      all_goals
                        refine psq_guard 1 false 90 _ rfl rfl rfl rfl (fun hh => by exfalso; first | (rw [g6_] at hh; exact absurd hh (by decide)) | (revert hh; simp [g6_])) (fun _ => ?_)
                        refine psq_guard 1 false 90 _ rfl rfl rfl rfl (fun hh => by exfalso; first | (rw [g6_] at hh; exact absurd hh (by decide)) | (revert hh; simp [g6_])) (fun _ => ?_)
                        refine psq_guard 1 false 90 _ rfl rfl rfl rfl (fun hh => by exfalso; first | (rw [g6_] at hh; exact absurd hh (by decide)) | (revert hh; simp [g6_])) (fun _ => ?_)
                        refine psq_guard 1 false 90 _ rfl rfl rfl rfl (fun hh => by exfalso; first | (rw [g6_] at hh; exact absurd hh (by decide)) | (revert hh; simp [g6_])) (fun _ => ?_)
                    all_goals
                      refine psq_nil ?_
                      refine aops_guard 1 false 90 _ rfl rfl rfl rfl rfl (fun g7 => ?_) (fun g7 => ?_)
                      focus
                        have g7_ := g7
                        try simp only [List.length_map, List.length_cons, List.length_nil, nrm] at g7
                        all_goals try (exfalso; first | contradiction | (simp at g7_; done) | omega)
                        all_goals
                          refine AOp.eqP rfl rfl rfl rfl rfl ?_
                      rotate_right
                      focus
                        have g7_ := g7
                        try simp only [List.length_map, List.length_cons, List.length_nil, nrm] at g7
                        all_goals try (exfalso; first | contradiction | (simp at g7_; done) | omega)
                      all_goals
                        first
                        | refine aops_cons rfl rfl (AOp.pick_t rfl rfl (by first | assumption | rfl) rfl ?_)
                        | refine aops_cons rfl rfl (AOp.pick_f rfl rfl (by first | assumption | rfl) rfl ?_)
                        refine aops_cons rfl rfl (AOp.assign rfl rfl ?_)
                        refine aops_nil ?_
                        refine aw_region ?_
                        refine aops_cons rfl rfl (AOp.move rfl rfl ?_)
                        refine aops_cons rfl rfl (AOp.addE rfl rfl rfl (by first | omega | (simp <;> omega) | (simp at * <;> omega)) (by first | omega | (simp <;> omega) | (simp at * <;> omega)) ?_)
                        refine aops_cons rfl rfl (AOp.assign rfl rfl ?_)
                        refine aops_nil ?_
                        refine ⟨k + 1, ?_, ?_, (wk_env (sube_cons rfl (sube_cons rfl (sube_cons rfl (sube_cons rfl (sube_cons rfl (sube_cons rfl (sube_cons rfl (sube_cons rfl (sube_cons rfl (sube_cons rfl (sube_cons rfl (sube_cons rfl (sube_cons (by first | exact tk_yes (by assumption) | exact tk_no (by omega) (by assumption)) (sube_cons rfl (sube_nil _))))))))))))))))⟩
                        · dsimp only; omega
                        · dsimp only; omega
    all_goals
      refine aw_block ?_
      refine aw_seq ?_
      refine aw_region ?_
      refine aops_cons rfl rfl (AOp.fieldB Try.underlying30 rfl Try.sizeOf28 (by decide) rfl rfl rfl ?_)
      refine aops_cons rfl rfl (AOp.load1 Try.isAgg28 rfl rfl (reads_box _ (.head _)) rfl ?_)
      refine aops_cons rfl rfl (AOp.move rfl rfl ?_)
      refine aops_cons rfl rfl (AOp.indexLN Try.underlying28 Try.sizeOf25 rfl rfl rfl (by first | omega | (simp <;> omega) | (simp at * <;> omega)) (fun _ => rfl) ?_)
      refine aops_cons rfl rfl (AOp.loadN Try.isAgg25 Try.sizeOf25 rfl rfl (reads_im _ _) rfl rfl ?_)
      refine aops_cons rfl rfl (AOp.alloc Try.zeroValue25 (by kernel_rfl) rfl rfl ?_); intro b6
      refine aops_cons rfl rfl (AOp.storeB' Try.sizeOf25 rfl rfl rfl rfl rfl (pull_here _ _) rfl rfl ?_)
      refine aops_nil ?_
      refine aw_seq ?_
      refine aw_seq ?_
      refine aw_region ?_
      refine aops_cons rfl rfl (AOp.loadN Try.isAgg30 Try.sizeOf30 rfl rfl (reads_box _ (.tail _ (.head _))) rfl rfl ?_)
      refine aops_cons rfl rfl (AOp.move rfl rfl ?_)
      refine aops_cons rfl rfl (AOp.loadN Try.isAgg25 Try.sizeOf25 rfl rfl (reads_box _ (.head _)) rfl rfl ?_)
      refine aops_cons rfl rfl (AOp.callP Try.call61 rfl rfl rfl (by exact rFree d now d.w[i] hr.1 hr.2.1 (by first | omega | (simp <;> omega) | (simp at * <;> omega)) (by first | omega | (simp <;> omega) | (simp at * <;> omega))) ?_)
      refine aops_cons rfl rfl (AOp.not rfl rfl ?_)
      refine aops_nil ?_
      refine aw_cond _ rfl (fun h8 => ?_) (fun h8 => ?_)
      focus
        have h8_ := h8
        try simp only [List.length_map, List.length_cons, List.length_nil, nrm] at h8
        all_goals try (exfalso; first | contradiction | (simp at h8_; done) | omega)
        all_goals
          refine aw_seq ?_
          refine aw_region ?_
          refine aops_cons rfl rfl (AOp.move rfl rfl ?_)
          refine aops_cons rfl rfl (AOp.addE rfl rfl rfl (by first | omega | (simp <;> omega) | (simp at * <;> omega)) (by first | omega | (simp <;> omega) | (simp at * <;> omega)) ?_)
          refine aops_cons rfl rfl (AOp.assign rfl rfl ?_)
          refine aops_nil ?_
          refine aw_exit ?_
          refine ⟨(i + 1, n, d, acc, wl), ⟨hn, hR, hr, hlen, hacc, by omega, fun k hk h => ?_⟩, by dsimp only; omega, (wk_drop ?_).trans (wk_env (sube_cons rfl (sube_cons rfl (sube_cons rfl (sube_cons rfl (sube_cons rfl (sube_cons rfl (sube_cons rfl (sube_nil _)))))))))⟩
          · rcases Nat.lt_or_ge k i with h0 | h0
            · exact ha k hk h0
            · have e : k = i := by omega
              subst e; assumption
          · (focus ((repeat (first | exact List.Sublist.slnil | apply List.Sublist.cons_cons | apply List.Sublist.cons)); done))
      rotate_right
      focus
        have h8_ := h8
        try simp only [List.length_map, List.length_cons, List.length_nil, nrm] at h8
        all_goals try (exfalso; first | contradiction | (simp at h8_; done) | omega)
        all_goals
          refine aw_skip ?_
          skip
      all_goals
        refine aw_seq ?_
        refine aw_region ?_
        refine aops_cons rfl rfl (AOp.move rfl rfl ?_)
        refine aops_cons rfl rfl (AOp.loadN Try.isAgg25 Try.sizeOf25 rfl rfl (reads_box _ (.head _)) rfl rfl ?_)
        refine aops_cons rfl rfl (AOp.buildS' Try.underlying28 Try.sizeOf25 Try.zeroValue25 rfl rfl rfl rfl rfl rfl rfl rfl rfl rfl rfl ?_)
        (refine aops_cons rfl rfl (AOp.append' (bytes := 32) Try.zeroValue25 Try.sizeOf25 Try.underlying28 (by kernel_rfl) rfl rfl rfl (pull_there (pull_there (pull_there (pull_here _ _)))) rfl (src_sl Try.underlying28 (all_len rfl)) (by first | omega | (simp <;> omega) | (simp at * <;> omega)) (by decide) ?_); intro b7)
        refine aops_cons rfl rfl (AOp.assign rfl rfl ?_)
        refine aops_nil ?_
        refine aw_seq ?_
        refine aw_region ?_
        refine aops_cons rfl rfl (AOp.loadN Try.isAgg30 Try.sizeOf30 rfl rfl (reads_box _ (.tail _ (.tail _ (.head _)))) rfl rfl ?_)
        refine aops_cons rfl rfl (AOp.move rfl rfl ?_)
        refine aops_cons rfl rfl (AOp.loadN Try.isAgg25 Try.sizeOf25 rfl rfl (reads_box _ (.tail _ (.head _))) rfl rfl ?_)
        refine aops_cons rfl rfl (AOp.callP Try.call62 rfl rfl rfl (by exact rLends d now d.w[i] hr.1 hn0 hn1 (by first | omega | (simp <;> omega) | (simp at * <;> omega)) (by first | omega | (simp <;> omega) | (simp at * <;> omega))) ?_)
        refine aops_cons rfl rfl (AOp.storeB' Try.sizeOf30 rfl rfl rfl rfl rfl (pull_there (pull_there (pull_here _ _))) rfl rfl ?_)
        refine aops_nil ?_
        refine aw_region ?_
        refine aops_cons rfl rfl (AOp.assign rfl rfl ?_)
        refine aops_nil ?_
        have hfnd := find_first (p := free d now) (l := d.w) (i := i) (by omega) ha (by assumption)
        obtain ⟨m, rfl, e1, e2, e3⟩ := runD_go acc hn hfnd
        have e4 := lets_len d now d.w[i]
        refine ⟨(0, m, lets d now d.w[i], acc ++ [d.w[i]], _), ⟨e1, by rw [← e3]; exact hR, rd_lets hr (List.getElem_mem _), by omega, by simp; omega, Nat.zero_le _, fun k hk h => by omega⟩, by dsimp only; omega, ((wk_drop (A' := [.box b1 30 (lets d now d.w[i]).e, .row _ 25 4 (acc.map Wt.e ++ [Wt.e d.w[i]]), .box b2 30 [.sc (.slice none 0 0), .sc (.slice none 0 0)]]) ?_).trans ((wk_perm (List.Perm.swap _ _ _)).trans ((wk_roweq (by rw [List.map_append]; rfl)).trans ((wk_perm ((List.Perm.swap _ _ _).trans (List.Perm.cons _ (List.Perm.swap _ _ _)))).trans (wk_env (sube_cons rfl (sube_cons rfl (sube_cons rfl (sube_cons rfl (sube_cons rfl (sube_cons rfl (sube_cons rfl (sube_nil _)))))))))))))⟩
        (focus ((repeat (first | exact List.Sublist.slnil | apply List.Sublist.cons_cons | apply List.Sublist.cons)); done))

end Go.Proofs.Ytdacnebhlgibhaa
