/- Own text: the desk answers as the document says, whatever is asked. -/
import Derived.Test.YtdacnebhlgibhaaDu
set_option linter.unusedVariables false
set_option linter.unusedSimpArgs false
set_option linter.all false
set_option maxRecDepth 100000
set_option maxHeartbeats 2000000
namespace Go.Proofs.Ytdacnebhlgibhaa
open Go Go.Aw

section
variable {P : Program} {n : Nat} {c d : Code} {v : Env} {A : List Blk} {Q : Post}
/-- A cut: many ways come together. -/
theorem aw_cut {β : Type} {S : β → Env} {B : β → List Blk} {pre : β → Prop} (h : AW P n c v A (thenQ (fun v' A' => ∃ z, pre z ∧ Wk n v' A' (S z) (B z)) Q)) (k : ∀ z, pre z → AW P n d (S z) (B z) Q) : AW P n (.seq c d) v A Q :=
  aw_seq (AW.mono h (fun x v' A' hq => by
    cases x with
    | nm => obtain ⟨z, hp, hw⟩ := hq; exact aw_weak hw (k z hp)
    | _ => exact hq))
end
section
variable {o : Oper} {n : Nat} {v : Env} {A : List Blk} {K : AV → List Blk → Prop} {E : AV → List Blk → Prop}
theorem run_neP (a b : Int × Int) (W : World) : (binOp .neq 41 (.agg #[.int .i64 a.1, .int .i64 a.2]) (.agg #[.int .i64 b.1, .int .i64 b.2])).run Try.prog W = .ok (.bool (!decide (a = b))) W := by
  obtain ⟨a1, a2⟩ := a
  obtain ⟨b1, b2⟩ := b
  simp only [Prod.mk.injEq]
  rw [run_neq_struct, run_eqIn2 Try.underlying41 Try.sizeOf3 Try.isAgg3 a1 a2 b1 b2 W 9999 (fun x y => run_equalIn_int W 9998 3 .i64 .i64 x y Try.underlying3)]
  rfl
theorem AOp.neP {ty' : TypeId} {x y : Operand} {cs ds : List AV} {a b : Int × Int} (hop : o.op = .binOp .neq 41 x y ty') (hx : ev v x = some (.ag cs)) (hy : ev v y = some (.ag ds)) (hcs : cs = pe a) (hds : ds = pe b) (q : K (.sc (.bool (!decide (a = b)))) A) : AOp Try.prog o n v A K E :=
  AOp.binA (xs := [.int .i64 a.1, .int .i64 a.2]) (ys := [.int .i64 b.1, .int .i64 b.2]) hcs hds hop hx hy (fun W => run_eqGuard_agg W .neq 41 x y _ _ (by kernel_rfl)) (run_neP a b) q
end
theorem gd_mono {k k' : Int} {d : Dk} {a : Int} (h : GD k d a) (hk : k ≤ k') : GD k' d a :=
  ⟨h.s, fun y hy => by have := h.ok y hy; omega, h.live, h.one, h.u, fun y hy => by have := h.okw y hy; unfold okWt at this ⊢; omega⟩
theorem ask_out (d : Dk) (now : Int) (w : Wt) : (askD d now w).2.2.1.length ≤ d.l.length := by
  unfold askD
  split
  · simp
  · split
    · exact Nat.le_trans (len_cls _ _ _ _ _) (prn_len _ _)
    · simp
theorem callsF_len (d : Dk) (now : Int) : ∀ (l : List Wt) (acc : List (Int × Int)), (callsF d now l acc).length ≤ acc.length + l.length * d.l.length
  | [], acc => by simp [callsF]
  | w :: r, acc => by
    have h1 := callsF_len d now r (addC w.f (cls d.l now w.c w.f w.m) acc)
    have h2 := addC_len w.f (cls d.l now w.c w.f w.m) acc
    have h3 := len_cls d.l now w.c w.f w.m
    have h4 : (w :: r).length * d.l.length = r.length * d.l.length + d.l.length := by rw [List.length_cons, Nat.succ_mul]
    show (callsF d now r (addC w.f (cls d.l now w.c w.f w.m) acc)).length ≤ _
    omega
theorem callsOf_len {k : Int} {d : Dk} {a now : Int} (h : GD k d a) (hk : k ≤ 6) : (callsOf d now).length ≤ 90 := by
  have h1 := callsF_len d now d.w []
  have h2 := Nat.mul_le_mul h.lenw (h.lenl hk)
  show (callsF d now d.w []).length ≤ 90
  rw [List.length_nil] at h1
  omega
theorem run_out2 {k : Int} {d : Dk} {a T : Int} (hg : GD k d a) : (runOf d T).2.length ≤ d.w.length := by
  have := (run_keep T d.w.length ⟨prn d.l T, d.w⟩ [] hg.u).2
  show (runD T d.w.length ⟨prn d.l T, d.w⟩ []).2.length ≤ _
  simp only [List.length_nil] at this
  omega

theorem deskAllWalk (p : List UInt8) (l : List Q) (x : Wt) : ACalls Try.prog 3 [bytes p, q4s l, .ag x.e] [] (fun r A' => r = .sc (.bool true)) (fun _ _ => False) := by
  unfold bytes q4s
  refine acallsN Try.func3 rfl Try.ntmps3 rfl ?_
  refine aw_seq ?_
  refine aw_region ?_
  refine aops_cons rfl rfl (AOp.boxI rfl rfl rfl ?_)
  refine aops_cons rfl rfl (AOp.assign rfl rfl ?_)
  refine aops_nil ?_
  refine aw_seq ?_
  refine aw_seq ?_
  refine aw_region ?_
  refine aops_cons rfl rfl (AOp.callP Try.call13 rfl rfl rfl begun ?_)
  refine aops_cons rfl rfl (AOp.not rfl rfl ?_)
  refine aops_nil ?_
  refine aw_cond _ rfl (fun h1 => ?_) (fun h1 => ?_)
  focus
    have h1_ := h1
    try simp only [List.length_map, List.length_cons, List.length_nil, nrm] at h1
    all_goals try (exfalso; first | contradiction | (simp at h1_; done) | omega)
  rotate_right
  focus
    have h1_ := h1
    try simp only [List.length_map, List.length_cons, List.length_nil, nrm] at h1
    all_goals try (exfalso; first | contradiction | (simp at h1_; done) | omega)
    all_goals
      refine aw_skip ?_
      skip
  all_goals
    refine aw_seq ?_
    refine aw_seq ?_
    refine aw_region ?_
    refine aops_cons rfl rfl (AOp.move rfl rfl ?_)
    refine aops_cons rfl rfl (AOp.lenS (by first | exact List.length_map _ | rfl) Try.underlying22 rfl rfl ?_)
    refine aops_cons rfl rfl (AOp.gtr rfl rfl rfl ?_)
    refine aops_cons rfl rfl (AOp.move rfl rfl ?_)
    refine aops_guard 3 false 34 _ rfl rfl rfl rfl rfl (fun g2 => ?_) (fun g2 => ?_)
    focus
      have g2_ := g2
      try simp only [List.length_map, List.length_cons, List.length_nil, nrm] at g2
      all_goals try (exfalso; first | contradiction | (simp at g2_; done) | omega)
      all_goals
        refine AOp.move rfl rfl ?_
        refine aops_guard 3 false 34 _ rfl rfl rfl rfl rfl (fun _ => ?_) (fun hh => by exfalso; first | (rw [g2_] at hh; exact absurd hh (by decide)) | (revert hh; simp [g2_]))
        refine AOp.lenS (by first | exact List.length_map _ | rfl) Try.underlying23 rfl rfl ?_
        refine aops_guard 3 false 34 _ rfl rfl rfl rfl rfl (fun _ => ?_) (fun hh => by exfalso; first | (rw [g2_] at hh; exact absurd hh (by decide)) | (revert hh; simp [g2_]))
        refine AOp.gtr rfl rfl rfl ?_
    rotate_right
    focus
      have g2_ := g2
      try simp only [List.length_map, List.length_cons, List.length_nil, nrm] at g2
      all_goals try (exfalso; first | contradiction | (simp at g2_; done) | omega)
      all_goals
        refine aops_guard 3 false 34 _ rfl rfl rfl rfl rfl (fun hh => by exfalso; first | (rw [g2_] at hh; exact absurd hh (by decide)) | (revert hh; simp [g2_])) (fun _ => ?_)
        refine aops_guard 3 false 34 _ rfl rfl rfl rfl rfl (fun hh => by exfalso; first | (rw [g2_] at hh; exact absurd hh (by decide)) | (revert hh; simp [g2_])) (fun _ => ?_)
    all_goals
      first
      | refine aops_cons rfl rfl (AOp.pick_t rfl rfl (by first | assumption | rfl) rfl ?_)
      | refine aops_cons rfl rfl (AOp.pick_f rfl rfl (by first | assumption | rfl) rfl ?_)
      refine aops_nil ?_
      refine aw_cond _ rfl (fun h3 => ?_) (fun h3 => ?_)
      focus
        have h3_ := h3
        try simp only [List.length_map, List.length_cons, List.length_nil, nrm] at h3
        all_goals try (exfalso; first | contradiction | (simp at h3_; done) | omega)
        all_goals
          refine aw_seq ?_
          refine aw_region ?_
          refine aops_cons rfl rfl (AOp.assign rfl rfl ?_)
          refine aops_nil ?_
          refine aw_ret ?_
          refine ⟨_, (res1 Try.results3 rfl), ?_⟩
          rfl
      rotate_right
      focus
        have h3_ := h3
        try simp only [List.length_map, List.length_cons, List.length_nil, nrm] at h3
        all_goals try (exfalso; first | contradiction | (simp at h3_; done) | omega)
        all_goals
          refine aw_skip ?_
          skip
      all_goals
        refine aw_seq ?_
        refine aw_region ?_
        refine aops_cons rfl rfl (AOp.move rfl rfl ?_)
        refine aops_cons rfl rfl (AOp.callN (Af := []) Try.call14 rfl rfl rfl (List.Perm.refl _) (by exact made p) (fun r' A'' hr => ?_))
        obtain ⟨b, rfl, rfl⟩ := hr
        refine aops_cons rfl rfl (AOp.callN (Af := _) Try.call15 rfl rfl rfl (show List.Perm _ ([_] ++ _) from (pull_here _ _)) (by exact desk p b (by first | omega | (simp <;> omega) | (simp at * <;> omega))) (fun r' A'' hr => ?_))
        obtain ⟨d0, now0, n', rfl, hg0, k00, kn0, k1, rfl⟩ := hr
        refine aops_cons rfl rfl (AOp.move rfl rfl ?_)
        refine aops_cons rfl rfl (AOp.extract rfl rfl rfl ?_)
        refine aops_cons rfl rfl (AOp.extract rfl rfl rfl ?_)
        refine aops_cons rfl rfl (AOp.alloc Try.zeroValue30 (by kernel_rfl) rfl rfl ?_); intro b1
        refine aops_cons rfl rfl (AOp.storeB' Try.sizeOf30 rfl rfl rfl rfl rfl (pull_here _ _) rfl rfl ?_)
        refine aops_cons rfl rfl (AOp.assign rfl rfl ?_)
        refine aops_nil ?_
        refine aw_seq ?_
        refine aw_region ?_
        refine aops_cons rfl rfl (AOp.loadN Try.isAgg30 Try.sizeOf30 rfl rfl (reads_box _ (.head _)) rfl rfl ?_)
        refine aops_cons rfl rfl (AOp.alloc Try.zeroValue30 (by kernel_rfl) rfl rfl ?_); intro b2
        refine aops_cons rfl rfl (AOp.storeB' Try.sizeOf30 rfl rfl rfl rfl rfl (pull_here _ _) rfl rfl ?_)
        refine aops_nil ?_
        refine aw_seq ?_
        refine aw_seq ?_
        refine aw_region ?_
        refine aops_cons rfl rfl (AOp.assign rfl rfl ?_)
        refine aops_nil ?_
        refine aw_block ?_
        refine aw_loop (β := Nat × Int × Dk) (S := (fun (z0 : Nat × Int × Dk) => match z0 with | (i, now, d) => [(1, q4s l), (5, .im x.e), (7, .sc (.pointer (some ⟨b1, 0, none⟩))), (8, .sc (.int .i64 now)), (9, .sc (.pointer (some ⟨b2, 0, none⟩))), (10, .sc (.int .i64 (i : Int)))])) (B := (fun (z0 : Nat × Int × Dk) => match z0 with | (i, now, d) => [.box b2 30 (Dk.e d), .box b1 30 (Dk.e d)])) (pre := (fun (z0 : Nat × Int × Dk) => match z0 with | (i, now, d) => i ≤ l.length ∧ 0 ≤ now ∧ now ≤ 1000 + 70 * (i : Int) ∧ GD 6 d now)) (μ := (fun (z0 : Nat × Int × Dk) => match z0 with | (i, now, d) => l.length - i)) (0, now0, d0) ((wk_drop (A' := [.box b2 30 (Dk.e d0), .box b1 30 (Dk.e d0)]) ?_).trans (wk_env (sube_cons rfl (sube_cons rfl (sube_cons rfl (sube_cons rfl (sube_cons rfl (sube_cons rfl (sube_nil _))))))))) ?_ ?_; (focus ((repeat (first | exact List.Sublist.slnil | apply List.Sublist.cons_cons | apply List.Sublist.cons)); done))
        · exact ⟨Nat.zero_le _, k00, by omega, gd_mono hg0 (by decide)⟩
        · rintro ⟨i, now, d⟩ ⟨hi, k0, kn, hg⟩
          change AW _ _ _ ([(1, q4s l), (5, .im x.e), (7, .sc (.pointer (some ⟨b1, 0, none⟩))), (8, .sc (.int .i64 now)), (9, .sc (.pointer (some ⟨b2, 0, none⟩))), (10, .sc (.int .i64 (i : Int)))] : Env) ([.box b2 30 (Dk.e d), .box b1 30 (Dk.e d)] : List Blk) _
          have hgl := hg.lenl (by decide)
          have hgw := hg.lenw
          refine aw_seq ?_
          refine aw_seq ?_
          refine aw_region ?_
          refine aops_cons rfl rfl (AOp.move rfl rfl ?_)
          refine aops_cons rfl rfl (AOp.move rfl rfl ?_)
          refine aops_cons rfl rfl (AOp.lenS (by first | exact List.length_map _ | rfl) Try.underlying23 rfl rfl ?_)
          refine aops_cons rfl rfl (AOp.lss rfl rfl rfl ?_)
          refine aops_nil ?_
          refine aw_cond _ rfl (fun h4 => ?_) (fun h4 => ?_)
          focus
            have h4_ := h4
            try simp only [List.length_map, List.length_cons, List.length_nil, nrm] at h4
            all_goals try (exfalso; first | contradiction | (simp at h4_; done) | omega)
            all_goals
              refine aw_skip ?_
              skip
          rotate_right
          focus
            have h4_ := h4
            try simp only [List.length_map, List.length_cons, List.length_nil, nrm] at h4
            all_goals try (exfalso; first | contradiction | (simp at h4_; done) | omega)
            all_goals
              refine aw_exit ?_
              refine aw_seq ?_
              refine aw_region ?_
              refine aops_cons rfl rfl (AOp.assign rfl rfl ?_)
              refine aops_nil ?_
              refine aw_ret ?_
              refine ⟨_, (res1 Try.results3 rfl), ?_⟩
              rfl
          all_goals
            refine aw_seq ?_
            refine aw_block ?_
            refine aw_seq ?_
            refine aw_draw 17 [0, 0, 0, 0, 0, 0, 0, 0, 0, 0, 0, 0, 0, 0, 0, 0, 0] (by kernel_rfl) (by kernel_rfl) ?_
            refine psq_cons _ rfl (core0 (AOp.move rfl rfl ⟨rfl, rfl⟩)) ?_
            refine psq_cons _ rfl (core0 (AOp.move rfl rfl ⟨rfl, rfl⟩)) ?_
            refine psq_cons _ rfl (core0 (AOp.indexLN Try.underlying23 Try.sizeOf35 rfl rfl rfl (by first | omega | (simp <;> omega) | (simp at * <;> omega)) (fun _ => rfl) ⟨rfl, rfl⟩)) ?_
            refine psq_cons _ rfl (core0 (AOp.indexAI Try.underlying35 Try.sizeOf5 rfl rfl rfl (by first | omega | (simp <;> omega) | (simp at * <;> omega)) (by first | omega | (simp <;> omega) | (simp at * <;> omega)) rfl ⟨rfl, rfl⟩)) ?_
            refine psq_cons _ rfl (core0 (AOp.load1 Try.isAgg5 rfl rfl (reads_im _ _) rfl ⟨rfl, rfl⟩)) ?_
            refine psq_cons _ rfl (core0 (AOp.remE rfl rfl rfl (by first | decide | omega) (by first | omega | (simp <;> omega) | (simp at * <;> omega)) ⟨rfl, rfl⟩)) ?_
            refine psq_cons _ rfl (core0 (AOp.conviI Try.underlying5 Try.underlying3 rfl rfl (by first | omega | (simp <;> omega) | (simp at * <;> omega)) (by first | omega | (simp <;> omega) | (simp at * <;> omega)) ⟨rfl, rfl⟩)) ?_
            refine psq_cons _ rfl (core0 (AOp.addE rfl rfl rfl (by first | omega | (simp <;> omega) | (simp at * <;> omega)) (by first | omega | (simp <;> omega) | (simp at * <;> omega)) ⟨rfl, rfl⟩)) ?_
            refine psq_cons _ rfl (core0 (AOp.move rfl rfl ⟨rfl, rfl⟩)) ?_
            refine psq_cons _ rfl (core0 (AOp.move rfl rfl ⟨rfl, rfl⟩)) ?_
            refine psq_cons _ rfl (core0 (AOp.indexLN Try.underlying23 Try.sizeOf35 rfl rfl rfl (by first | omega | (simp <;> omega) | (simp at * <;> omega)) (fun _ => rfl) ⟨rfl, rfl⟩)) ?_
            refine psq_cons _ rfl (core0 (AOp.indexAI Try.underlying35 Try.sizeOf5 rfl rfl rfl (by first | omega | (simp <;> omega) | (simp at * <;> omega)) (by first | omega | (simp <;> omega) | (simp at * <;> omega)) rfl ⟨rfl, rfl⟩)) ?_
            refine psq_cons _ rfl (core0 (AOp.load1 Try.isAgg5 rfl rfl (reads_im _ _) rfl ⟨rfl, rfl⟩)) ?_
            refine psq_cons _ rfl (core0 (AOp.remE rfl rfl rfl (by first | decide | omega) (by first | omega | (simp <;> omega) | (simp at * <;> omega)) ⟨rfl, rfl⟩)) ?_
            refine psq_cons _ rfl (core0 (AOp.conviI Try.underlying5 Try.underlying3 rfl rfl (by first | omega | (simp <;> omega) | (simp at * <;> omega)) (by first | omega | (simp <;> omega) | (simp at * <;> omega)) ⟨rfl, rfl⟩)) ?_
            refine psq_cons _ rfl (core0 (AOp.addE rfl rfl rfl (by first | omega | (simp <;> omega) | (simp at * <;> omega)) (by first | omega | (simp <;> omega) | (simp at * <;> omega)) ⟨rfl, rfl⟩)) ?_
            refine psq_cons _ rfl (core0 (AOp.assign rfl rfl ⟨rfl, rfl⟩)) ?_
            refine psq_nil ?_
            refine aops_cons rfl rfl (AOp.assign rfl rfl ?_)
            refine aops_nil ?_
            refine aw_seq ?_
            refine aw_region ?_
            refine aops_cons rfl rfl (AOp.move rfl rfl ?_)
            refine aops_cons rfl rfl (AOp.move rfl rfl ?_)
            refine aops_cons rfl rfl (AOp.addE rfl rfl rfl (by first | omega | (simp <;> omega) | (simp at * <;> omega)) (by first | omega | (simp <;> omega) | (simp at * <;> omega)) ?_)
            refine aops_cons rfl rfl (AOp.move rfl rfl ?_)
            refine aops_cons rfl rfl (AOp.move rfl rfl ?_)
            refine aops_cons rfl rfl (AOp.move rfl rfl ?_)
            refine aops_cons rfl rfl (AOp.indexLN Try.underlying23 Try.sizeOf35 rfl rfl rfl (by first | omega | (simp <;> omega) | (simp at * <;> omega)) (fun _ => rfl) ?_)
            refine aops_cons rfl rfl (AOp.indexAI Try.underlying35 Try.sizeOf5 rfl rfl rfl (by first | omega | (simp <;> omega) | (simp at * <;> omega)) (by first | omega | (simp <;> omega) | (simp at * <;> omega)) rfl ?_)
            refine aops_cons rfl rfl (AOp.load1 Try.isAgg5 rfl rfl (reads_im _ _) rfl ?_)
            refine aops_cons rfl rfl (AOp.remE rfl rfl rfl (by first | decide | omega) (by first | omega | (simp <;> omega) | (simp at * <;> omega)) ?_)
            refine aops_cons rfl rfl (AOp.conviI Try.underlying5 Try.underlying3 rfl rfl (by first | omega | (simp <;> omega) | (simp at * <;> omega)) (by first | omega | (simp <;> omega) | (simp at * <;> omega)) ?_)
            refine aops_cons rfl rfl (AOp.addE rfl rfl rfl (by first | omega | (simp <;> omega) | (simp at * <;> omega)) (by first | omega | (simp <;> omega) | (simp at * <;> omega)) ?_)
            refine aops_cons rfl rfl (AOp.build' (places := [(0, 1), (1, 1), (2, 1), (3, 1)]) Try.zeroValue25 (by kernel_rfl) (by kernel_rfl) Try.underlying25 (by kernel_rfl) rfl rfl rfl rfl ?_)
            refine aops_cons rfl rfl (AOp.alloc Try.zeroValue25 (by kernel_rfl) rfl rfl ?_); intro b3
            refine aops_cons rfl rfl (AOp.storeB' Try.sizeOf25 rfl rfl rfl rfl rfl (pull_here _ _) rfl rfl ?_)
            refine aops_nil ?_
            refine aw_cut (β := Wt) (S := (fun (z0 : Wt) => match z0 with | w => [(1, q4s l), (5, .im x.e), (7, .sc (.pointer (some ⟨b1, 0, none⟩))), (8, .sc (.int .i64 now)), (9, .sc (.pointer (some ⟨b2, 0, none⟩))), (10, .sc (.int .i64 (i : Int))), (11, .sc (.int .i64 (1 + (l[i].b.toNat : Int) % 3))), (12, .sc (.int .i64 (1 + (l[i].c.toNat : Int) % 3))), (13, .sc (.pointer (some ⟨b3, 0, none⟩)))])) (B := (fun (z0 : Wt) => match z0 with | w => [.box b3 25 w.e, .box b2 30 (Dk.e d), .box b1 30 (Dk.e d)])) (pre := (fun (z0 : Wt) => match z0 with | w => okWt 6 w)) ?_ ?_
            · skip
              refine aw_seq ?_
              refine aw_region ?_
              refine aops_cons rfl rfl (AOp.move rfl rfl ?_)
              refine aops_cons rfl rfl (AOp.move rfl rfl ?_)
              refine aops_cons rfl rfl (AOp.lenS (by first | exact List.length_map _ | rfl) Try.underlying23 rfl rfl ?_)
              refine aops_cons rfl rfl (AOp.subE rfl rfl rfl (by first | omega | (simp <;> omega) | (simp at * <;> omega)) (by first | omega | (simp <;> omega) | (simp at * <;> omega)) ?_)
              refine aops_cons rfl rfl (AOp.eql rfl rfl rfl ?_)
              refine aops_cons rfl rfl (AOp.move rfl rfl ?_)
              refine aops_guard 5 true 86 _ rfl rfl rfl rfl rfl (fun g5 => ?_) (fun g5 => ?_)
              focus
                have g5_ := g5
                try simp only [List.length_map, List.length_cons, List.length_nil, nrm] at g5
                all_goals try (exfalso; first | contradiction | (simp at g5_; done) | omega)
                all_goals
                  refine AOp.fieldI Try.underlying25 rfl Try.sizeOf3 (by decide) rfl rfl rfl ?_
                  refine aops_guard 5 true 86 _ rfl rfl rfl rfl rfl (fun _ => ?_) (fun hh => by exfalso; first | (rw [g5_] at hh; exact absurd hh (by decide)) | (revert hh; simp [g5_]))
                  refine AOp.load1 Try.isAgg3 rfl rfl (reads_im _ _) rfl ?_
                  refine aops_guard 5 true 86 _ rfl rfl rfl rfl rfl (fun _ => ?_) (fun hh => by exfalso; first | (rw [g5_] at hh; exact absurd hh (by decide)) | (revert hh; simp [g5_]))
                  refine AOp.geq rfl rfl rfl ?_
              rotate_right
              focus
                have g5_ := g5
                try simp only [List.length_map, List.length_cons, List.length_nil, nrm] at g5
                all_goals try (exfalso; first | contradiction | (simp at g5_; done) | omega)
                all_goals
                  refine aops_guard 5 true 86 _ rfl rfl rfl rfl rfl (fun hh => by exfalso; first | (rw [g5_] at hh; exact absurd hh (by decide)) | (revert hh; simp [g5_])) (fun _ => ?_)
                  refine aops_guard 5 true 86 _ rfl rfl rfl rfl rfl (fun hh => by exfalso; first | (rw [g5_] at hh; exact absurd hh (by decide)) | (revert hh; simp [g5_])) (fun _ => ?_)
              all_goals
                first
                | refine aops_cons rfl rfl (AOp.pick_t rfl rfl (by first | assumption | rfl) rfl ?_)
                | refine aops_cons rfl rfl (AOp.pick_f rfl rfl (by first | assumption | rfl) rfl ?_)
                refine aops_cons rfl rfl (AOp.move rfl rfl ?_)
                refine aops_guard 10 true 91 _ rfl rfl rfl rfl rfl (fun g6 => ?_) (fun g6 => ?_)
                focus
                  have g6_ := g6
                  try simp only [List.length_map, List.length_cons, List.length_nil, nrm] at g6
                  all_goals try (exfalso; first | contradiction | (simp at g6_; done) | omega)
                  all_goals
                    refine AOp.fieldI Try.underlying25 rfl Try.sizeOf3 (by decide) rfl rfl rfl ?_
                    refine aops_guard 10 true 91 _ rfl rfl rfl rfl rfl (fun _ => ?_) (fun hh => by exfalso; first | (rw [g6_] at hh; exact absurd hh (by decide)) | (revert hh; simp [g6_]))
                    refine AOp.load1 Try.isAgg3 rfl rfl (reads_im _ _) rfl ?_
                    refine aops_guard 10 true 91 _ rfl rfl rfl rfl rfl (fun _ => ?_) (fun hh => by exfalso; first | (rw [g6_] at hh; exact absurd hh (by decide)) | (revert hh; simp [g6_]))
                    refine AOp.leq rfl rfl rfl ?_
                rotate_right
                focus
                  have g6_ := g6
                  try simp only [List.length_map, List.length_cons, List.length_nil, nrm] at g6
                  all_goals try (exfalso; first | contradiction | (simp at g6_; done) | omega)
                  all_goals
                    refine aops_guard 10 true 91 _ rfl rfl rfl rfl rfl (fun hh => by exfalso; first | (rw [g6_] at hh; exact absurd hh (by decide)) | (revert hh; simp [g6_])) (fun _ => ?_)
                    refine aops_guard 10 true 91 _ rfl rfl rfl rfl rfl (fun hh => by exfalso; first | (rw [g6_] at hh; exact absurd hh (by decide)) | (revert hh; simp [g6_])) (fun _ => ?_)
                all_goals
                  first
                  | refine aops_cons rfl rfl (AOp.pick_t rfl rfl (by first | assumption | rfl) rfl ?_)
                  | refine aops_cons rfl rfl (AOp.pick_f rfl rfl (by first | assumption | rfl) rfl ?_)
                  refine aops_cons rfl rfl (AOp.move rfl rfl ?_)
                  refine aops_guard 15 true 96 _ rfl rfl rfl rfl rfl (fun g7 => ?_) (fun g7 => ?_)
                  focus
                    have g7_ := g7
                    try simp only [List.length_map, List.length_cons, List.length_nil, nrm] at g7
                    all_goals try (exfalso; first | contradiction | (simp at g7_; done) | omega)
                    all_goals
                      refine AOp.fieldI Try.underlying25 rfl Try.sizeOf3 (by decide) rfl rfl rfl ?_
                      refine aops_guard 15 true 96 _ rfl rfl rfl rfl rfl (fun _ => ?_) (fun hh => by exfalso; first | (rw [g7_] at hh; exact absurd hh (by decide)) | (revert hh; simp [g7_]))
                      refine AOp.load1 Try.isAgg3 rfl rfl (reads_im _ _) rfl ?_
                      refine aops_guard 15 true 96 _ rfl rfl rfl rfl rfl (fun _ => ?_) (fun hh => by exfalso; first | (rw [g7_] at hh; exact absurd hh (by decide)) | (revert hh; simp [g7_]))
                      refine AOp.eql rfl rfl rfl ?_
                      refine aops_guard 15 true 96 _ rfl rfl rfl rfl rfl (fun _ => ?_) (fun hh => by exfalso; first | (rw [g7_] at hh; exact absurd hh (by decide)) | (revert hh; simp [g7_]))
                      refine AOp.move rfl rfl ?_
                  rotate_right
                  focus
                    have g7_ := g7
                    try simp only [List.length_map, List.length_cons, List.length_nil, nrm] at g7
                    all_goals try (exfalso; first | contradiction | (simp at g7_; done) | omega)
                    all_goals
                      refine aops_guard 15 true 96 _ rfl rfl rfl rfl rfl (fun hh => by exfalso; first | (rw [g7_] at hh; exact absurd hh (by decide)) | (revert hh; simp [g7_])) (fun _ => ?_)
                      refine aops_guard 15 true 96 _ rfl rfl rfl rfl rfl (fun hh => by exfalso; first | (rw [g7_] at hh; exact absurd hh (by decide)) | (revert hh; simp [g7_])) (fun _ => ?_)
                      refine aops_guard 15 true 96 _ rfl rfl rfl rfl rfl (fun hh => by exfalso; first | (rw [g7_] at hh; exact absurd hh (by decide)) | (revert hh; simp [g7_])) (fun _ => ?_)
                  all_goals
                    first
                    | (refine aops_guardU 19 false 100 rfl rfl rfl rfl rfl ?_; refine aops_guardU 19 false 100 rfl rfl rfl rfl rfl ?_; refine aops_guardU 19 false 100 rfl rfl rfl rfl rfl ?_)
                    | skip
                      refine aops_guard 19 false 100 _ rfl rfl rfl rfl rfl (fun g8 => ?_) (fun g8 => ?_)
                      focus
                        have g8_ := g8
                        try simp only [List.length_map, List.length_cons, List.length_nil, nrm] at g8
                        all_goals try (exfalso; first | contradiction | (simp at g8_; done) | omega)
                        all_goals
                          refine AOp.fieldI Try.underlying25 rfl Try.sizeOf3 (by decide) rfl rfl rfl ?_
                          refine aops_guard 19 false 100 _ rfl rfl rfl rfl rfl (fun _ => ?_) (fun hh => by exfalso; first | (rw [g8_] at hh; exact absurd hh (by decide)) | (revert hh; simp [g8_]))
                          refine AOp.load1 Try.isAgg3 rfl rfl (reads_im _ _) rfl ?_
                          refine aops_guard 19 false 100 _ rfl rfl rfl rfl rfl (fun _ => ?_) (fun hh => by exfalso; first | (rw [g8_] at hh; exact absurd hh (by decide)) | (revert hh; simp [g8_]))
                          refine AOp.eql rfl rfl rfl ?_
                      rotate_right
                      focus
                        have g8_ := g8
                        try simp only [List.length_map, List.length_cons, List.length_nil, nrm] at g8
                        all_goals try (exfalso; first | contradiction | (simp at g8_; done) | omega)
                        all_goals
                          refine aops_guard 19 false 100 _ rfl rfl rfl rfl rfl (fun hh => by exfalso; first | (rw [g8_] at hh; exact absurd hh (by decide)) | (revert hh; simp [g8_])) (fun _ => ?_)
                          refine aops_guard 19 false 100 _ rfl rfl rfl rfl rfl (fun hh => by exfalso; first | (rw [g8_] at hh; exact absurd hh (by decide)) | (revert hh; simp [g8_])) (fun _ => ?_)
                    all_goals
                      refine aops_guard 15 true 96 _ rfl rfl rfl rfl rfl (fun g9 => ?_) (fun g9 => ?_)
                      focus
                        have g9_ := g9
                        try simp only [List.length_map, List.length_cons, List.length_nil, nrm] at g9
                        all_goals try (exfalso; first | contradiction | (simp at g9_; done) | omega)
                        all_goals
                          first
                          | refine AOp.pick_t rfl rfl (by first | assumption | rfl) rfl ?_
                          | refine AOp.pick_f rfl rfl (by first | assumption | rfl) rfl ?_
                      rotate_right
                      focus
                        have g9_ := g9
                        try simp only [List.length_map, List.length_cons, List.length_nil, nrm] at g9
                        all_goals try (exfalso; first | contradiction | (simp at g9_; done) | omega)
                      all_goals
                        first
                        | refine aops_cons rfl rfl (AOp.pick_t rfl rfl (by first | assumption | rfl) rfl ?_)
                        | refine aops_cons rfl rfl (AOp.pick_f rfl rfl (by first | assumption | rfl) rfl ?_)
                        refine aops_cons rfl rfl (AOp.move rfl rfl ?_)
                        refine aops_guard 25 true 106 _ rfl rfl rfl rfl rfl (fun g10 => ?_) (fun g10 => ?_)
                        focus
                          have g10_ := g10
                          try simp only [List.length_map, List.length_cons, List.length_nil, nrm] at g10
                          all_goals try (exfalso; first | contradiction | (simp at g10_; done) | omega)
                          all_goals
                            refine AOp.fieldI Try.underlying25 rfl Try.sizeOf3 (by decide) rfl rfl rfl ?_
                            refine aops_guard 25 true 106 _ rfl rfl rfl rfl rfl (fun _ => ?_) (fun hh => by exfalso; first | (rw [g10_] at hh; exact absurd hh (by decide)) | (revert hh; simp [g10_]))
                            refine AOp.load1 Try.isAgg3 rfl rfl (reads_im _ _) rfl ?_
                            refine aops_guard 25 true 106 _ rfl rfl rfl rfl rfl (fun _ => ?_) (fun hh => by exfalso; first | (rw [g10_] at hh; exact absurd hh (by decide)) | (revert hh; simp [g10_]))
                            refine AOp.geq rfl rfl rfl ?_
                        rotate_right
                        focus
                          have g10_ := g10
                          try simp only [List.length_map, List.length_cons, List.length_nil, nrm] at g10
                          all_goals try (exfalso; first | contradiction | (simp at g10_; done) | omega)
                          all_goals
                            refine aops_guard 25 true 106 _ rfl rfl rfl rfl rfl (fun hh => by exfalso; first | (rw [g10_] at hh; exact absurd hh (by decide)) | (revert hh; simp [g10_])) (fun _ => ?_)
                            refine aops_guard 25 true 106 _ rfl rfl rfl rfl rfl (fun hh => by exfalso; first | (rw [g10_] at hh; exact absurd hh (by decide)) | (revert hh; simp [g10_])) (fun _ => ?_)
                        all_goals
                          first
                          | refine aops_cons rfl rfl (AOp.pick_t rfl rfl (by first | assumption | rfl) rfl ?_)
                          | refine aops_cons rfl rfl (AOp.pick_f rfl rfl (by first | assumption | rfl) rfl ?_)
                          refine aops_cons rfl rfl (AOp.move rfl rfl ?_)
                          refine aops_guard 30 true 111 _ rfl rfl rfl rfl rfl (fun g11 => ?_) (fun g11 => ?_)
                          focus
                            have g11_ := g11
                            try simp only [List.length_map, List.length_cons, List.length_nil, nrm] at g11
                            all_goals try (exfalso; first | contradiction | (simp at g11_; done) | omega)
                            all_goals
                              refine AOp.fieldI Try.underlying25 rfl Try.sizeOf3 (by decide) rfl rfl rfl ?_
                              refine aops_guard 30 true 111 _ rfl rfl rfl rfl rfl (fun _ => ?_) (fun hh => by exfalso; first | (rw [g11_] at hh; exact absurd hh (by decide)) | (revert hh; simp [g11_]))
                              refine AOp.load1 Try.isAgg3 rfl rfl (reads_im _ _) rfl ?_
                              refine aops_guard 30 true 111 _ rfl rfl rfl rfl rfl (fun _ => ?_) (fun hh => by exfalso; first | (rw [g11_] at hh; exact absurd hh (by decide)) | (revert hh; simp [g11_]))
                              refine AOp.leq rfl rfl rfl ?_
                          rotate_right
                          focus
                            have g11_ := g11
                            try simp only [List.length_map, List.length_cons, List.length_nil, nrm] at g11
                            all_goals try (exfalso; first | contradiction | (simp at g11_; done) | omega)
                            all_goals
                              refine aops_guard 30 true 111 _ rfl rfl rfl rfl rfl (fun hh => by exfalso; first | (rw [g11_] at hh; exact absurd hh (by decide)) | (revert hh; simp [g11_])) (fun _ => ?_)
                              refine aops_guard 30 true 111 _ rfl rfl rfl rfl rfl (fun hh => by exfalso; first | (rw [g11_] at hh; exact absurd hh (by decide)) | (revert hh; simp [g11_])) (fun _ => ?_)
                          all_goals
                            first
                            | refine aops_cons rfl rfl (AOp.pick_t rfl rfl (by first | assumption | rfl) rfl ?_)
                            | refine aops_cons rfl rfl (AOp.pick_f rfl rfl (by first | assumption | rfl) rfl ?_)
                            refine aops_nil ?_
                            refine aw_cond _ rfl (fun h12 => ?_) (fun h12 => ?_)
                            focus
                              have h12_ := h12
                              try simp only [List.length_map, List.length_cons, List.length_nil, nrm] at h12
                              all_goals try (exfalso; first | contradiction | (simp at h12_; done) | omega)
                              all_goals
                                refine aw_region ?_
                                refine aops_cons rfl rfl (AOp.loadN Try.isAgg25 Try.sizeOf25 rfl rfl (reads_im _ _) rfl rfl ?_)
                                refine aops_cons rfl rfl (AOp.storeB' Try.sizeOf25 rfl rfl rfl rfl rfl (pull_here _ _) rfl rfl ?_)
                                refine aops_nil ?_
                                (refine ⟨x, (by unfold okWt; omega), (wk_env (sube_cons rfl (sube_cons rfl (sube_cons rfl (sube_cons rfl (sube_cons rfl (sube_cons rfl (sube_cons rfl (sube_cons rfl (sube_cons rfl (sube_nil _)))))))))))⟩)
                            rotate_right
                            focus
                              have h12_ := h12
                              try simp only [List.length_map, List.length_cons, List.length_nil, nrm] at h12
                              all_goals try (exfalso; first | contradiction | (simp at h12_; done) | omega)
                              all_goals
                                refine aw_skip ?_
                                (refine ⟨(⟨(1 + (l[i].b.toNat : Int) % 3), 100 + (i : Int), (1 + (l[i].c.toNat : Int) % 3), 1 + (l[i].d.toNat : Int) % 2⟩ : Wt), (by unfold okWt; dsimp only; omega), (wk_env (sube_cons rfl (sube_cons rfl (sube_cons rfl (sube_cons rfl (sube_cons rfl (sube_cons rfl (sube_cons rfl (sube_cons rfl (sube_cons rfl (sube_nil _)))))))))))⟩)
            · rintro w hw
              change AW _ _ _ ([(1, q4s l), (5, .im x.e), (7, .sc (.pointer (some ⟨b1, 0, none⟩))), (8, .sc (.int .i64 now)), (9, .sc (.pointer (some ⟨b2, 0, none⟩))), (10, .sc (.int .i64 (i : Int))), (11, .sc (.int .i64 (1 + (l[i].b.toNat : Int) % 3))), (12, .sc (.int .i64 (1 + (l[i].c.toNat : Int) % 3))), (13, .sc (.pointer (some ⟨b3, 0, none⟩)))] : Env) ([.box b3 25 w.e, .box b2 30 (Dk.e d), .box b1 30 (Dk.e d)] : List Blk) _
              refine aw_cut (β := Int × Dk) (S := (fun (z0 : Int × Dk) => match z0 with | (now', e) => [(1, q4s l), (5, .im x.e), (7, .sc (.pointer (some ⟨b1, 0, none⟩))), (8, .sc (.int .i64 now')), (9, .sc (.pointer (some ⟨b2, 0, none⟩))), (10, .sc (.int .i64 (i : Int)))])) (B := (fun (z0 : Int × Dk) => match z0 with | (now', e) => [.box b2 30 (Dk.e e), .box b1 30 (Dk.e e)])) (pre := (fun (z0 : Int × Dk) => match z0 with | (now', e) => now ≤ now' ∧ now' ≤ now + 70 ∧ GD 6 e now')) ?_ ?_
              · skip
                refine aw_seq ?_
                refine aw_region ?_
                refine aops_cons rfl rfl (AOp.move rfl rfl ?_)
                refine aops_cons rfl rfl (AOp.move rfl rfl ?_)
                refine aops_cons rfl rfl (AOp.indexLN Try.underlying23 Try.sizeOf35 rfl rfl rfl (by first | omega | (simp <;> omega) | (simp at * <;> omega)) (fun _ => rfl) ?_)
                refine aops_cons rfl rfl (AOp.indexAI Try.underlying35 Try.sizeOf5 rfl rfl rfl (by first | omega | (simp <;> omega) | (simp at * <;> omega)) (by first | omega | (simp <;> omega) | (simp at * <;> omega)) rfl ?_)
                refine aops_cons rfl rfl (AOp.load1 Try.isAgg5 rfl rfl (reads_im _ _) rfl ?_)
                refine aops_cons rfl rfl (AOp.remE rfl rfl rfl (by first | decide | omega) (by first | omega | (simp <;> omega) | (simp at * <;> omega)) ?_)
                refine aops_nil ?_
                refine aw_block ?_
                refine aw_seq ?_
                refine aw_region ?_
                refine aops_cons rfl rfl (AOp.eql rfl rfl rfl ?_)
                refine aops_cons rfl rfl (AOp.assign rfl rfl ?_)
                refine aops_nil ?_
                refine aw_cond _ rfl (fun h13 => ?_) (fun h13 => ?_)
                focus
                  have h13_ := h13
                  try simp only [List.length_map, List.length_cons, List.length_nil, nrm] at h13
                  all_goals try (exfalso; first | contradiction | (simp at h13_; done) | omega)
                  all_goals
                    refine aw_draw 7 [0, 0, 0, 0, 0, 0, 0] (by kernel_rfl) (by kernel_rfl) ?_
                    refine psq_cons _ rfl (core0 (AOp.loadN Try.isAgg30 Try.sizeOf30 rfl rfl (reads_box _ (.tail _ (.tail _ (.head _)))) rfl rfl ⟨rfl, rfl⟩)) ?_
                    refine psq_cons _ rfl (core0 (AOp.move rfl rfl ⟨rfl, rfl⟩)) ?_
                    refine psq_cons _ rfl (core0 (AOp.move rfl rfl ⟨rfl, rfl⟩)) ?_
                    refine psq_cons _ rfl (core0 (AOp.callP Try.call16 rfl rfl rfl (by exact giveD d (1 + (l[i].b.toNat : Int) % 3) (1 + (l[i].c.toNat : Int) % 3) (by first | omega | (simp <;> omega) | (simp at * <;> omega)) (by first | omega | (simp <;> omega) | (simp at * <;> omega))) ⟨rfl, rfl⟩)) ?_
                    refine psq_cons _ rfl (core0 (AOp.loadN Try.isAgg30 Try.sizeOf30 rfl rfl (reads_box _ (.tail _ (.head _))) rfl rfl ⟨rfl, rfl⟩)) ?_
                    refine psq_cons _ rfl (core0 (AOp.move rfl rfl ⟨rfl, rfl⟩)) ?_
                    refine psq_cons _ rfl (core0 (AOp.move rfl rfl ⟨rfl, rfl⟩)) ?_
                    refine psq_nil ?_
                    refine aops_cons rfl rfl (AOp.callP Try.call17 rfl rfl rfl (by exact rGive d (1 + (l[i].b.toNat : Int) % 3) (1 + (l[i].c.toNat : Int) % 3) (by first | omega | (simp <;> omega) | (simp at * <;> omega)) (by first | omega | (simp <;> omega) | (simp at * <;> omega))) ?_)
                    refine aops_cons rfl rfl (AOp.storeB' Try.sizeOf30 rfl rfl rfl rfl rfl (pull_there (pull_there (pull_here _ _))) rfl rfl ?_)
                    refine aops_cons rfl rfl (AOp.storeB' Try.sizeOf30 rfl rfl rfl rfl rfl (pull_there (pull_there (pull_here _ _))) rfl rfl ?_)
                    refine aops_nil ?_
                    (refine ⟨(now, (⟨drp d.l (1 + (l[i].b.toNat : Int) % 3) (1 + (l[i].c.toNat : Int) % 3), d.w⟩ : Dk)), ⟨by omega, by omega, gd_give hg⟩, (wk_drop (A' := [.box b2 30 (Dk.e (⟨drp d.l (1 + (l[i].b.toNat : Int) % 3) (1 + (l[i].c.toNat : Int) % 3), d.w⟩ : Dk)), .box b1 30 (Dk.e (⟨drp d.l (1 + (l[i].b.toNat : Int) % 3) (1 + (l[i].c.toNat : Int) % 3), d.w⟩ : Dk))]) ?_).trans (wk_env (sube_cons rfl (sube_cons rfl (sube_cons rfl (sube_cons rfl (sube_cons rfl (sube_cons rfl (sube_nil _))))))))⟩; (focus ((repeat (first | exact List.Sublist.slnil | apply List.Sublist.cons_cons | apply List.Sublist.cons)); done)))
                rotate_right
                focus
                  have h13_ := h13
                  try simp only [List.length_map, List.length_cons, List.length_nil, nrm] at h13
                  all_goals try (exfalso; first | contradiction | (simp at h13_; done) | omega)
                  all_goals
                    refine aw_seq ?_
                    refine aw_region ?_
                    refine aops_cons rfl rfl (AOp.eql rfl rfl rfl ?_)
                    refine aops_cons rfl rfl (AOp.assign rfl rfl ?_)
                    refine aops_nil ?_
                    refine aw_cond _ rfl (fun h14 => ?_) (fun h14 => ?_)
                    focus
                      have h14_ := h14
                      try simp only [List.length_map, List.length_cons, List.length_nil, nrm] at h14
                      all_goals try (exfalso; first | contradiction | (simp at h14_; done) | omega)
                      all_goals
                        refine aw_seq ?_
                        refine aw_region ?_
                        refine aops_cons rfl rfl (AOp.move rfl rfl ?_)
                        refine aops_cons rfl rfl (AOp.move rfl rfl ?_)
                        refine aops_cons rfl rfl (AOp.move rfl rfl ?_)
                        refine aops_cons rfl rfl (AOp.indexLN Try.underlying23 Try.sizeOf35 rfl rfl rfl (by first | omega | (simp <;> omega) | (simp at * <;> omega)) (fun _ => rfl) ?_)
                        refine aops_cons rfl rfl (AOp.indexAI Try.underlying35 Try.sizeOf5 rfl rfl rfl (by first | omega | (simp <;> omega) | (simp at * <;> omega)) (by first | omega | (simp <;> omega) | (simp at * <;> omega)) rfl ?_)
                        refine aops_cons rfl rfl (AOp.load1 Try.isAgg5 rfl rfl (reads_im _ _) rfl ?_)
                        refine aops_cons rfl rfl (AOp.remE rfl rfl rfl (by first | decide | omega) (by first | omega | (simp <;> omega) | (simp at * <;> omega)) ?_)
                        refine aops_cons rfl rfl (AOp.conviI Try.underlying5 Try.underlying3 rfl rfl (by first | omega | (simp <;> omega) | (simp at * <;> omega)) (by first | omega | (simp <;> omega) | (simp at * <;> omega)) ?_)
                        refine aops_cons rfl rfl (AOp.addE rfl rfl rfl (by first | omega | (simp <;> omega) | (simp at * <;> omega)) (by first | omega | (simp <;> omega) | (simp at * <;> omega)) ?_)
                        refine aops_cons rfl rfl (AOp.assign rfl rfl ?_)
                        refine aops_nil ?_
                        refine aw_seq ?_
                        refine aw_region ?_
                        refine aops_cons rfl rfl (AOp.loadN Try.isAgg30 Try.sizeOf30 rfl rfl (reads_box _ (.tail _ (.tail _ (.head _)))) rfl rfl ?_)
                        refine aops_cons rfl rfl (AOp.move rfl rfl ?_)
                        refine aops_cons rfl rfl (AOp.callP Try.call18 rfl rfl rfl (by exact runL d (now + (l[i].d.toNat : Int) % 70) hg.s (by first | omega | (simp <;> omega) | (simp at * <;> omega)) (by first | omega | (simp <;> omega) | (simp at * <;> omega)) (by first | omega | (simp <;> omega) | (simp at * <;> omega)) (by first | omega | (simp <;> omega) | (simp at * <;> omega))) ?_)
                        refine aops_cons rfl rfl (AOp.move rfl rfl ?_)
                        refine aops_cons rfl rfl (AOp.extract rfl rfl rfl ?_)
                        refine aops_cons rfl rfl (AOp.extract rfl rfl rfl ?_)
                        refine aops_cons rfl rfl (AOp.extract rfl rfl rfl ?_)
                        refine aops_cons rfl rfl (AOp.alloc Try.zeroValue30 (by kernel_rfl) rfl rfl ?_); intro b4
                        refine aops_cons rfl rfl (AOp.storeB' Try.sizeOf30 rfl rfl rfl rfl rfl (pull_here _ _) rfl rfl ?_)
                        refine aops_cons rfl rfl (AOp.assign rfl rfl ?_)
                        refine aops_cons rfl rfl (AOp.assign rfl rfl ?_)
                        refine aops_nil ?_
                        refine aw_seq ?_
                        refine aw_region ?_
                        refine aops_cons rfl rfl (AOp.loadN Try.isAgg30 Try.sizeOf30 rfl rfl (reads_box _ (.tail _ (.tail _ (.head _)))) rfl rfl ?_)
                        refine aops_cons rfl rfl (AOp.move rfl rfl ?_)
                        refine aops_cons rfl rfl (AOp.callP Try.call19 rfl rfl rfl (by exact rRun d (now + (l[i].d.toNat : Int) % 70) hg.rd (by first | omega | (simp <;> omega) | (simp at * <;> omega)) (by first | omega | (simp <;> omega) | (simp at * <;> omega)) (by first | omega | (simp <;> omega) | (simp at * <;> omega)) (by first | omega | (simp <;> omega) | (simp at * <;> omega))) ?_)
                        refine aops_cons rfl rfl (AOp.move rfl rfl ?_)
                        refine aops_cons rfl rfl (AOp.extract rfl rfl rfl ?_)
                        refine aops_cons rfl rfl (AOp.extract rfl rfl rfl ?_)
                        refine aops_cons rfl rfl (AOp.extract rfl rfl rfl ?_)
                        refine aops_cons rfl rfl (AOp.alloc Try.zeroValue30 (by kernel_rfl) rfl rfl ?_); intro b5
                        refine aops_cons rfl rfl (AOp.storeB' Try.sizeOf30 rfl rfl rfl rfl rfl (pull_here _ _) rfl rfl ?_)
                        refine aops_cons rfl rfl (AOp.assign rfl rfl ?_)
                        refine aops_cons rfl rfl (AOp.assign rfl rfl ?_)
                        refine aops_nil ?_
                        refine aw_seq ?_
                        refine aw_seq ?_
                        refine aw_region ?_
                        refine aops_cons rfl rfl (AOp.move rfl rfl ?_)
                        refine aops_cons rfl rfl (AOp.move rfl rfl ?_)
                        refine aops_cons rfl rfl (AOp.callP Try.call20 rfl rfl rfl (by exact sameWaitsT rfl (by have := run_out2 (T := (now + (l[i].d.toNat : Int) % 70)) hg; omega)) ?_)
                        refine aops_cons rfl rfl (AOp.not rfl rfl ?_)
                        refine aops_cons rfl rfl (AOp.move rfl rfl ?_)
                        refine aops_guard 4 false 196 _ rfl rfl rfl rfl rfl (fun g15 => ?_) (fun g15 => ?_)
                        focus
                          have g15_ := g15
                          try simp only [List.length_map, List.length_cons, List.length_nil, nrm] at g15
                          all_goals try (exfalso; first | contradiction | (simp at g15_; done) | omega)
                          all_goals
                            refine AOp.move rfl rfl ?_
                            refine aops_guard 4 false 196 _ rfl rfl rfl rfl rfl (fun _ => ?_) (fun hh => by exfalso; first | (rw [g15_] at hh; exact absurd hh (by decide)) | (revert hh; simp [g15_]))
                            refine AOp.lenS (by first | exact List.length_map _ | rfl) Try.underlying37 rfl rfl ?_
                            refine aops_guard 4 false 196 _ rfl rfl rfl rfl rfl (fun _ => ?_) (fun hh => by exfalso; first | (rw [g15_] at hh; exact absurd hh (by decide)) | (revert hh; simp [g15_]))
                            refine AOp.move rfl rfl ?_
                            refine aops_guard 4 false 196 _ rfl rfl rfl rfl rfl (fun _ => ?_) (fun hh => by exfalso; first | (rw [g15_] at hh; exact absurd hh (by decide)) | (revert hh; simp [g15_]))
                            refine AOp.lenS (by first | exact List.length_map _ | rfl) Try.underlying37 rfl rfl ?_
                            refine aops_guard 4 false 196 _ rfl rfl rfl rfl rfl (fun _ => ?_) (fun hh => by exfalso; first | (rw [g15_] at hh; exact absurd hh (by decide)) | (revert hh; simp [g15_]))
                            refine AOp.neq rfl rfl rfl ?_
                        rotate_right
                        focus
                          have g15_ := g15
                          try simp only [List.length_map, List.length_cons, List.length_nil, nrm] at g15
                          all_goals try (exfalso; first | contradiction | (simp at g15_; done) | omega)
                        all_goals
                          refine aops_cons rfl rfl (AOp.pick_f rfl rfl (by first | assumption | rfl) rfl ?_)
                          refine aops_nil ?_
                          refine aw_cond _ rfl (fun h16 => ?_) (fun h16 => ?_)
                          focus
                            have h16_ := h16
                            try simp only [List.length_map, List.length_cons, List.length_nil, nrm] at h16
                            all_goals try (exfalso; first | contradiction | (simp at h16_; done) | omega)
                          rotate_right
                          focus
                            have h16_ := h16
                            try simp only [List.length_map, List.length_cons, List.length_nil, nrm] at h16
                            all_goals try (exfalso; first | contradiction | (simp at h16_; done) | omega)
                            all_goals
                              refine aw_skip ?_
                              skip
                          all_goals
                            refine aw_seq ?_
                            refine aw_seq ?_
                            refine aw_region ?_
                            refine aops_cons rfl rfl (AOp.assign rfl rfl ?_)
                            refine aops_nil ?_
                            refine aw_block ?_
                            refine aw_loop (β := Nat) (S := (fun (z0 : Nat) => match z0 with | k => [(1, q4s l), (5, .im x.e), (7, .sc (.pointer (some ⟨b1, 0, none⟩))), (8, .sc (.int .i64 (now + (l[i].d.toNat : Int) % 70))), (9, .sc (.pointer (some ⟨b2, 0, none⟩))), (10, .sc (.int .i64 (i : Int))), (14, .sc (.pointer (some ⟨b4, 0, none⟩))), (16, prs (callsOf (runOf d (now + (l[i].d.toNat : Int) % 70)).1 (now + (l[i].d.toNat : Int) % 70))), (17, .sc (.pointer (some ⟨b5, 0, none⟩))), (19, prs (callsOf (runOf d (now + (l[i].d.toNat : Int) % 70)).1 (now + (l[i].d.toNat : Int) % 70))), (20, .sc (.int .i64 (k : Int)))])) (B := (fun (z0 : Nat) => match z0 with | k => [.box b5 30 (Dk.e (runOf d (now + (l[i].d.toNat : Int) % 70)).1), .box b4 30 (Dk.e (runOf d (now + (l[i].d.toNat : Int) % 70)).1), .box b2 30 (Dk.e d), .box b1 30 (Dk.e d)])) (pre := (fun (z0 : Nat) => match z0 with | k => k ≤ (callsOf (runOf d (now + (l[i].d.toNat : Int) % 70)).1 (now + (l[i].d.toNat : Int) % 70)).length)) (μ := (fun (z0 : Nat) => match z0 with | k => (callsOf (runOf d (now + (l[i].d.toNat : Int) % 70)).1 (now + (l[i].d.toNat : Int) % 70)).length - k)) 0 ((wk_drop (A' := [.box b5 30 (Dk.e (runOf d (now + (l[i].d.toNat : Int) % 70)).1), .box b4 30 (Dk.e (runOf d (now + (l[i].d.toNat : Int) % 70)).1), .box b2 30 (Dk.e d), .box b1 30 (Dk.e d)]) ?_).trans (wk_env (sube_cons rfl (sube_cons rfl (sube_cons rfl (sube_cons rfl (sube_cons rfl (sube_cons rfl (sube_cons rfl (sube_cons rfl (sube_cons rfl (sube_cons rfl (sube_cons rfl (sube_nil _)))))))))))))) ?_ ?_; (focus ((repeat (first | exact List.Sublist.slnil | apply List.Sublist.cons_cons | apply List.Sublist.cons)); done))
                            · exact Nat.zero_le _
                            · rintro k hk
                              change AW _ _ _ ([(1, q4s l), (5, .im x.e), (7, .sc (.pointer (some ⟨b1, 0, none⟩))), (8, .sc (.int .i64 (now + (l[i].d.toNat : Int) % 70))), (9, .sc (.pointer (some ⟨b2, 0, none⟩))), (10, .sc (.int .i64 (i : Int))), (14, .sc (.pointer (some ⟨b4, 0, none⟩))), (16, prs (callsOf (runOf d (now + (l[i].d.toNat : Int) % 70)).1 (now + (l[i].d.toNat : Int) % 70))), (17, .sc (.pointer (some ⟨b5, 0, none⟩))), (19, prs (callsOf (runOf d (now + (l[i].d.toNat : Int) % 70)).1 (now + (l[i].d.toNat : Int) % 70))), (20, .sc (.int .i64 (k : Int)))] : Env) ([.box b5 30 (Dk.e (runOf d (now + (l[i].d.toNat : Int) % 70)).1), .box b4 30 (Dk.e (runOf d (now + (l[i].d.toNat : Int) % 70)).1), .box b2 30 (Dk.e d), .box b1 30 (Dk.e d)] : List Blk) _
                              replace hk : k ≤ (callsOf (runOf d (now + (l[i].d.toNat : Int) % 70)).1 (now + (l[i].d.toNat : Int) % 70)).length := hk
                              have hco := callsOf_len (now := (now + (l[i].d.toNat : Int) % 70)) (gd_runOf hg (show now ≤ (now + (l[i].d.toNat : Int) % 70) by omega) (by omega)) (by decide)
                              refine aw_seq ?_
                              refine aw_seq ?_
                              refine aw_region ?_
                              refine aops_cons rfl rfl (AOp.move rfl rfl ?_)
                              refine aops_cons rfl rfl (AOp.move rfl rfl ?_)
                              refine aops_cons rfl rfl (AOp.lenS (by first | exact List.length_map _ | rfl) Try.underlying37 rfl rfl ?_)
                              refine aops_cons rfl rfl (AOp.lss rfl rfl rfl ?_)
                              refine aops_nil ?_
                              refine aw_cond _ rfl (fun h17 => ?_) (fun h17 => ?_)
                              focus
                                have h17_ := h17
                                try simp only [List.length_map, List.length_cons, List.length_nil, nrm] at h17
                                all_goals try (exfalso; first | contradiction | (simp at h17_; done) | omega)
                                all_goals
                                  refine aw_skip ?_
                                  skip
                              rotate_right
                              focus
                                have h17_ := h17
                                try simp only [List.length_map, List.length_cons, List.length_nil, nrm] at h17
                                all_goals try (exfalso; first | contradiction | (simp at h17_; done) | omega)
                                all_goals
                                  refine aw_exit ?_
                                  refine aw_drawS (fun A0 => Blk.box b5 30 (Dk.e (runOf d (now + (l[i].d.toNat : Int) % 70)).1) ∈ A0) (by first | exact .head _ | exact .tail _ (.head _) | exact .tail _ (.tail _ (.head _))) 3 [0, 1, 3] (by kernel_rfl) (by kernel_rfl) ?_
                                  refine psq_cons _ rfl (core0 (AOp.loadN Try.isAgg30 Try.sizeOf30 rfl rfl (reads_box _ (.tail _ (.head _))) rfl rfl ⟨rfl, rfl⟩)) ?_
                                  refine psq_cons _ rfl (core1 (fun _ hA0 => AOp.loadN Try.isAgg30 Try.sizeOf30 rfl rfl (reads_box _ hA0) rfl rfl ⟨rfl, rfl⟩)) ?_
                                  refine psq_cons _ rfl (core3 (AOp.storeB' Try.sizeOf30 rfl rfl rfl rfl rfl (pull_there (pull_there (pull_there (pull_here _ _)))) rfl rfl ⟨rfl, rfl⟩) (by first | exact .head _ | exact .tail _ (.head _) | exact .tail _ (.tail _ (.head _)))) ?_
                                  refine psq_nil ?_
                                  refine aops_cons rfl rfl (AOp.storeB' Try.sizeOf30 rfl rfl rfl rfl rfl (pull_there (pull_there (pull_there (pull_here _ _)))) rfl rfl ?_)
                                  refine aops_nil ?_
                                  (refine ⟨((now + (l[i].d.toNat : Int) % 70), (runOf d (now + (l[i].d.toNat : Int) % 70)).1), ⟨by omega, by omega, gd_runOf hg (by omega) (by omega)⟩, (wk_drop (A' := [.box b2 30 (Dk.e (runOf d (now + (l[i].d.toNat : Int) % 70)).1), .box b1 30 (Dk.e (runOf d (now + (l[i].d.toNat : Int) % 70)).1)]) ?_).trans (wk_env (sube_cons rfl (sube_cons rfl (sube_cons rfl (sube_cons rfl (sube_cons rfl (sube_cons rfl (sube_nil _))))))))⟩; (focus ((repeat (first | exact List.Sublist.slnil | apply List.Sublist.cons_cons | apply List.Sublist.cons)); done)))
                              all_goals
                                refine aw_seq ?_
                                refine aw_block ?_
                                refine aw_seq ?_
                                refine aw_draw 8 [0, 0, 0, 0, 0, 0, 0, 0] (by kernel_rfl) (by kernel_rfl) ?_
                                refine psq_cons _ rfl (core0 (AOp.move rfl rfl ⟨rfl, rfl⟩)) ?_
                                refine psq_cons _ rfl (core0 (AOp.move rfl rfl ⟨rfl, rfl⟩)) ?_
                                refine psq_cons _ rfl (core0 (AOp.indexLN Try.underlying37 Try.sizeOf41 rfl rfl rfl (by first | omega | (simp <;> omega) | (simp at * <;> omega)) (fun _ => rfl) ⟨rfl, rfl⟩)) ?_
                                refine psq_cons _ rfl (core0 (AOp.loadN Try.isAgg41 Try.sizeOf41 rfl rfl (reads_im _ _) rfl rfl ⟨rfl, rfl⟩)) ?_
                                refine psq_cons _ rfl (core0 (AOp.move rfl rfl ⟨rfl, rfl⟩)) ?_
                                refine psq_cons _ rfl (core0 (AOp.move rfl rfl ⟨rfl, rfl⟩)) ?_
                                refine psq_cons _ rfl (core0 (AOp.indexLN Try.underlying37 Try.sizeOf41 rfl rfl rfl (by first | omega | (simp <;> omega) | (simp at * <;> omega)) (fun _ => rfl) ⟨rfl, rfl⟩)) ?_
                                refine psq_cons _ rfl (core0 (AOp.loadN Try.isAgg41 Try.sizeOf41 rfl rfl (reads_im _ _) rfl rfl ⟨rfl, rfl⟩)) ?_
                                refine psq_nil ?_
                                refine aops_cons rfl rfl (AOp.neP rfl rfl rfl rfl rfl ?_)
                                refine aops_nil ?_
                                refine aw_cond _ rfl (fun h18 => ?_) (fun h18 => ?_)
                                focus
                                  have h18_ := h18
                                  try simp only [List.length_map, List.length_cons, List.length_nil, nrm] at h18
                                  all_goals try (exfalso; first | contradiction | (simp at h18_; done) | omega)
                                rotate_right
                                focus
                                  have h18_ := h18
                                  try simp only [List.length_map, List.length_cons, List.length_nil, nrm] at h18
                                  all_goals try (exfalso; first | contradiction | (simp at h18_; done) | omega)
                                  all_goals
                                    refine aw_skip ?_
                                    skip
                                all_goals
                                  refine aw_region ?_
                                  refine aops_cons rfl rfl (AOp.move rfl rfl ?_)
                                  refine aops_cons rfl rfl (AOp.addE rfl rfl rfl (by first | omega | (simp <;> omega) | (simp at * <;> omega)) (by first | omega | (simp <;> omega) | (simp at * <;> omega)) ?_)
                                  refine aops_cons rfl rfl (AOp.assign rfl rfl ?_)
                                  refine aops_nil ?_
                                  refine ⟨k + 1, ?_, ?_, (wk_env (sube_cons rfl (sube_cons rfl (sube_cons rfl (sube_cons rfl (sube_cons rfl (sube_cons rfl (sube_cons rfl (sube_cons rfl (sube_cons rfl (sube_cons rfl (sube_cons rfl (sube_nil _)))))))))))))⟩
                                  · dsimp only; omega
                                  · dsimp only; omega
                    rotate_right
                    focus
                      have h14_ := h14
                      try simp only [List.length_map, List.length_cons, List.length_nil, nrm] at h14
                      all_goals try (exfalso; first | contradiction | (simp at h14_; done) | omega)
                      all_goals
                        refine aw_seq ?_
                        refine aw_region ?_
                        refine aops_cons rfl rfl (AOp.loadN Try.isAgg30 Try.sizeOf30 rfl rfl (reads_box _ (.tail _ (.tail _ (.head _)))) rfl rfl ?_)
                        refine aops_cons rfl rfl (AOp.move rfl rfl ?_)
                        refine aops_cons rfl rfl (AOp.loadN Try.isAgg25 Try.sizeOf25 rfl rfl (reads_box _ (.head _)) rfl rfl ?_)
                        refine aops_cons rfl rfl (AOp.callP Try.call21 rfl rfl rfl (by exact ask d now w hg.s hg.u k0 (by first | omega | (simp <;> omega) | (simp at * <;> omega)) (by first | omega | (simp <;> omega) | (simp at * <;> omega)) (by first | omega | (simp <;> omega) | (simp at * <;> omega))) ?_)
                        refine aops_cons rfl rfl (AOp.move rfl rfl ?_)
                        refine aops_cons rfl rfl (AOp.extract rfl rfl rfl ?_)
                        refine aops_cons rfl rfl (AOp.extract rfl rfl rfl ?_)
                        refine aops_cons rfl rfl (AOp.extract rfl rfl rfl ?_)
                        refine aops_cons rfl rfl (AOp.extract rfl rfl rfl ?_)
                        refine aops_cons rfl rfl (AOp.alloc Try.zeroValue30 (by kernel_rfl) rfl rfl ?_); intro b4
                        refine aops_cons rfl rfl (AOp.storeB' Try.sizeOf30 rfl rfl rfl rfl rfl (pull_here _ _) rfl rfl ?_)
                        refine aops_cons rfl rfl (AOp.assign rfl rfl ?_)
                        refine aops_cons rfl rfl (AOp.assign rfl rfl ?_)
                        refine aops_cons rfl rfl (AOp.assign rfl rfl ?_)
                        refine aops_nil ?_
                        refine aw_seq ?_
                        refine aw_region ?_
                        refine aops_cons rfl rfl (AOp.loadN Try.isAgg30 Try.sizeOf30 rfl rfl (reads_box _ (.tail _ (.tail _ (.head _)))) rfl rfl ?_)
                        refine aops_cons rfl rfl (AOp.move rfl rfl ?_)
                        refine aops_cons rfl rfl (AOp.loadN Try.isAgg25 Try.sizeOf25 rfl rfl (reads_box _ (.tail _ (.head _))) rfl rfl ?_)
                        refine aops_cons rfl rfl (AOp.callP Try.call22 rfl rfl rfl (by exact rAsk d now w hg.s hg.rd.2.1 k0 (by first | omega | (simp <;> omega) | (simp at * <;> omega)) (by first | omega | (simp <;> omega) | (simp at * <;> omega)) (by first | omega | (simp <;> omega) | (simp at * <;> omega))) ?_)
                        refine aops_cons rfl rfl (AOp.move rfl rfl ?_)
                        refine aops_cons rfl rfl (AOp.extract rfl rfl rfl ?_)
                        refine aops_cons rfl rfl (AOp.extract rfl rfl rfl ?_)
                        refine aops_cons rfl rfl (AOp.extract rfl rfl rfl ?_)
                        refine aops_cons rfl rfl (AOp.extract rfl rfl rfl ?_)
                        refine aops_cons rfl rfl (AOp.alloc Try.zeroValue30 (by kernel_rfl) rfl rfl ?_); intro b5
                        refine aops_cons rfl rfl (AOp.storeB' Try.sizeOf30 rfl rfl rfl rfl rfl (pull_here _ _) rfl rfl ?_)
                        refine aops_cons rfl rfl (AOp.assign rfl rfl ?_)
                        refine aops_cons rfl rfl (AOp.assign rfl rfl ?_)
                        refine aops_cons rfl rfl (AOp.assign rfl rfl ?_)
                        refine aops_nil ?_
                        refine aw_seq ?_
                        refine aw_seq ?_
                        refine aw_region ?_
                        refine aops_cons rfl rfl (AOp.move rfl rfl ?_)
                        refine aops_cons rfl rfl (AOp.move rfl rfl ?_)
                        refine aops_cons rfl rfl (AOp.neb Try.underlying4 rfl rfl rfl ?_)
                        refine aops_cons rfl rfl (AOp.move rfl rfl ?_)
                        refine aops_guard 3 false 144 _ rfl rfl rfl rfl rfl (fun g19 => ?_) (fun g19 => ?_)
                        focus
                          have g19_ := g19
                          try simp only [List.length_map, List.length_cons, List.length_nil, nrm] at g19
                          all_goals try (exfalso; first | contradiction | (simp at g19_; done) | omega)
                          all_goals
                            refine AOp.move rfl rfl ?_
                            refine aops_guard 3 false 144 _ rfl rfl rfl rfl rfl (fun _ => ?_) (fun hh => by exfalso; first | (rw [g19_] at hh; exact absurd hh (by decide)) | (revert hh; simp [g19_]))
                            refine AOp.move rfl rfl ?_
                            refine aops_guard 3 false 144 _ rfl rfl rfl rfl rfl (fun _ => ?_) (fun hh => by exfalso; first | (rw [g19_] at hh; exact absurd hh (by decide)) | (revert hh; simp [g19_]))
                            refine AOp.neq rfl rfl rfl ?_
                        rotate_right
                        focus
                          have g19_ := g19
                          try simp only [List.length_map, List.length_cons, List.length_nil, nrm] at g19
                          all_goals try (exfalso; first | contradiction | (simp at g19_; done) | omega)
                        all_goals
                          refine aops_cons rfl rfl (AOp.pick_f rfl rfl (by first | assumption | rfl) rfl ?_)
                          refine aops_cons rfl rfl (AOp.move rfl rfl ?_)
                          refine aops_guard 8 false 149 _ rfl rfl rfl rfl rfl (fun g20 => ?_) (fun g20 => ?_)
                          focus
                            have g20_ := g20
                            try simp only [List.length_map, List.length_cons, List.length_nil, nrm] at g20
                            all_goals try (exfalso; first | contradiction | (simp at g20_; done) | omega)
                            all_goals
                              refine AOp.move rfl rfl ?_
                              refine aops_guard 8 false 149 _ rfl rfl rfl rfl rfl (fun _ => ?_) (fun hh => by exfalso; first | (rw [g20_] at hh; exact absurd hh (by decide)) | (revert hh; simp [g20_]))
                              refine AOp.move rfl rfl ?_
                              refine aops_guard 8 false 149 _ rfl rfl rfl rfl rfl (fun _ => ?_) (fun hh => by exfalso; first | (rw [g20_] at hh; exact absurd hh (by decide)) | (revert hh; simp [g20_]))
                              refine AOp.callP Try.call23 rfl rfl rfl (by exact sameIntsT rfl (by have := ask_out d now w; omega)) ?_
                              refine aops_guard 8 false 149 _ rfl rfl rfl rfl rfl (fun _ => ?_) (fun hh => by exfalso; first | (rw [g20_] at hh; exact absurd hh (by decide)) | (revert hh; simp [g20_]))
                              refine AOp.not rfl rfl ?_
                          rotate_right
                          focus
                            have g20_ := g20
                            try simp only [List.length_map, List.length_cons, List.length_nil, nrm] at g20
                            all_goals try (exfalso; first | contradiction | (simp at g20_; done) | omega)
                          all_goals
                            refine aops_cons rfl rfl (AOp.pick_f rfl rfl (by first | assumption | rfl) rfl ?_)
                            refine aops_nil ?_
                            refine aw_cond _ rfl (fun h21 => ?_) (fun h21 => ?_)
                            focus
                              have h21_ := h21
                              try simp only [List.length_map, List.length_cons, List.length_nil, nrm] at h21
                              all_goals try (exfalso; first | contradiction | (simp at h21_; done) | omega)
                            rotate_right
                            focus
                              have h21_ := h21
                              try simp only [List.length_map, List.length_cons, List.length_nil, nrm] at h21
                              all_goals try (exfalso; first | contradiction | (simp at h21_; done) | omega)
                              all_goals
                                refine aw_skip ?_
                                skip
                            all_goals
                              refine aw_drawS (fun A0 => Blk.box b5 30 (Dk.e (askD d now w).1) ∈ A0) (by first | exact .head _ | exact .tail _ (.head _) | exact .tail _ (.tail _ (.head _))) 3 [0, 1, 3] (by kernel_rfl) (by kernel_rfl) ?_
                              refine psq_cons _ rfl (core0 (AOp.loadN Try.isAgg30 Try.sizeOf30 rfl rfl (reads_box _ (.tail _ (.head _))) rfl rfl ⟨rfl, rfl⟩)) ?_
                              refine psq_cons _ rfl (core1 (fun _ hA0 => AOp.loadN Try.isAgg30 Try.sizeOf30 rfl rfl (reads_box _ hA0) rfl rfl ⟨rfl, rfl⟩)) ?_
                              refine psq_cons _ rfl (core3 (AOp.storeB' Try.sizeOf30 rfl rfl rfl rfl rfl (pull_there (pull_there (pull_there (pull_there (pull_here _ _))))) rfl rfl ⟨rfl, rfl⟩) (by first | exact .head _ | exact .tail _ (.head _) | exact .tail _ (.tail _ (.head _)))) ?_
                              refine psq_nil ?_
                              refine aops_cons rfl rfl (AOp.storeB' Try.sizeOf30 rfl rfl rfl rfl rfl (pull_there (pull_there (pull_there (pull_there (pull_here _ _))))) rfl rfl ?_)
                              refine aops_nil ?_
                              (refine ⟨(now, (askD d now w).1), ⟨by omega, by omega, gd_ask hg (Int.le_refl _) k0 hw⟩, (wk_drop (A' := [.box b2 30 (Dk.e (askD d now w).1), .box b1 30 (Dk.e (askD d now w).1)]) ?_).trans (wk_env (sube_cons rfl (sube_cons rfl (sube_cons rfl (sube_cons rfl (sube_cons rfl (sube_cons rfl (sube_nil _))))))))⟩; (focus ((repeat (first | exact List.Sublist.slnil | apply List.Sublist.cons_cons | apply List.Sublist.cons)); done)))
              · rintro ⟨now', e⟩ ⟨hn1, hn2, hge⟩
                change AW _ _ _ ([(1, q4s l), (5, .im x.e), (7, .sc (.pointer (some ⟨b1, 0, none⟩))), (8, .sc (.int .i64 now')), (9, .sc (.pointer (some ⟨b2, 0, none⟩))), (10, .sc (.int .i64 (i : Int)))] : Env) ([.box b2 30 (Dk.e e), .box b1 30 (Dk.e e)] : List Blk) _
                have hel := hge.lenl (by decide)
                have hew := hge.lenw
                refine aw_seq ?_
                refine aw_region ?_
                refine aops_cons rfl rfl (AOp.loadN Try.isAgg30 Try.sizeOf30 rfl rfl (reads_box _ (.tail _ (.head _))) rfl rfl ?_)
                refine aops_cons rfl rfl (AOp.loadN Try.isAgg30 Try.sizeOf30 rfl rfl (reads_box _ (.head _)) rfl rfl ?_)
                refine aops_cons rfl rfl (AOp.callP Try.call24 rfl rfl rfl (by exact sameDesk e (by first | omega | (simp <;> omega) | (simp at * <;> omega)) (by first | omega | (simp <;> omega) | (simp at * <;> omega))) ?_)
                refine aops_cons rfl rfl (AOp.not rfl rfl ?_)
                refine aops_nil ?_
                refine aw_cond _ rfl (fun h22 => ?_) (fun h22 => ?_)
                focus
                  have h22_ := h22
                  try simp only [List.length_map, List.length_cons, List.length_nil, nrm] at h22
                  all_goals try (exfalso; first | contradiction | (simp at h22_; done) | omega)
                rotate_right
                focus
                  have h22_ := h22
                  try simp only [List.length_map, List.length_cons, List.length_nil, nrm] at h22
                  all_goals try (exfalso; first | contradiction | (simp at h22_; done) | omega)
                  all_goals
                    refine aw_skip ?_
                    skip
                all_goals
                  refine aw_region ?_
                  refine aops_cons rfl rfl (AOp.move rfl rfl ?_)
                  refine aops_cons rfl rfl (AOp.addE rfl rfl rfl (by first | omega | (simp <;> omega) | (simp at * <;> omega)) (by first | omega | (simp <;> omega) | (simp at * <;> omega)) ?_)
                  refine aops_cons rfl rfl (AOp.assign rfl rfl ?_)
                  refine aops_nil ?_
                  refine ⟨(i + 1, now', e), ⟨by omega, by omega, by omega, hge⟩, by dsimp only; omega, (wk_env (sube_cons rfl (sube_cons rfl (sube_cons rfl (sube_cons rfl (sube_cons rfl (sube_cons rfl (sube_nil _))))))))⟩

end Go.Proofs.Ytdacnebhlgibhaa
