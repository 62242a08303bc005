/- Own text: lines, by the program and by the document. -/
import Derived.Test.YtdacnebhlgibhaaDb
import Derived.Laws.StructEq
set_option linter.unusedVariables false
set_option linter.unusedSimpArgs false
set_option linter.all false
set_option maxRecDepth 100000
set_option maxHeartbeats 2000000
namespace Go.Proofs.Ytdacnebhlgibhaa
open Go Go.Aw

theorem rHolds (l : List L) (now c f : Int) (hs : srt l) (hl : l.length ≤ 1000000) : Pur Try.prog 26 [ls l, .sc (.int .i64 now), .sc (.int .i64 c), .sc (.int .i64 f)] (.sc (.int .i64 (hld l now c f))) := by
  have h := refHolds l now c f hl
  rwa [rhld_eq hs] at h
theorem rClash (l : List L) (now c f m : Int) (hs : srt l) (hc : ∀ y ∈ l, 1 ≤ y.c ∧ y.c ≤ 3) (hl : l.length ≤ 1000000) : Pur Try.prog 63 [ls l, .sc (.int .i64 now), .sc (.int .i64 c), .sc (.int .i64 f), .sc (.int .i64 m)] (ints (cls l now c f m)) := by
  have h := refClash l now c f m hl
  rwa [rcl_eq hs hc] at h
theorem rGrant (l : List L) (x : L) (hs : srt l) (hl : l.length ≤ 100000) : Pur Try.prog 109 [ls l, .ag x.e] (ls (gr2 l x)) := by
  have h := refGrant l x hl
  rwa [rgr_eq hs] at h
theorem rDrop (l : List L) (c f : Int) (hl : l.length ≤ 1000000) : Pur Try.prog 52 [ls l, .sc (.int .i64 c), .sc (.int .i64 f)] (ls (drp l c f)) := acalls_frz (refDrop l c f hl)
theorem rPrune (l : List L) (now : Int) (hl : l.length ≤ 1000000) : Pur Try.prog 60 [ls l, .sc (.int .i64 now)] (ls (prn l now)) := acalls_frz (refPrune l now hl)
theorem ahead_none {l : List Wt} {c f : Int} (h : ∀ k (hk : k < l.length), ¬ l[k].f = f) : ahead l c f = false := by
  unfold ahead
  rw [List.find?_eq_none.2]
  intro a ha
  obtain ⟨k, hk, rfl⟩ := List.getElem_of_mem ha
  simpa using h k hk
theorem ahead_some {l : List Wt} {c f : Int} {i : Nat} (hi : i < l.length) (h : ∀ k (hk : k < l.length), k < i → ¬ l[k].f = f) (hf : l[i].f = f) : ahead l c f = !decide (l[i].c = c) := by
  unfold ahead
  rw [List.find?_eq_some_iff_getElem.2 ⟨by simpa using hf, i, hi, rfl, fun j hj => by simpa using h j (by omega) hj⟩]
theorem putW_first {l : List Wt} {w : Wt} {i : Nat} (hi : i < l.length) (h : ∀ k (hk : k < l.length), k < i → ¬ (l[k].c = w.c ∧ l[k].f = w.f)) (hc : l[i].c = w.c) (hf : l[i].f = w.f) : putW l w = (l.set i w, true) := by
  have h' : l.findIdx? (fun y => decide (y.c = w.c ∧ y.f = w.f)) = some i := by
    rw [List.findIdx?_eq_some_iff_getElem]
    exact ⟨hi, by simp [hc, hf], fun j hj => by simpa using h j (by omega) hj⟩
  unfold putW
  rw [h']
theorem putW_full {l : List Wt} {w : Wt} (h : ∀ y ∈ l, ¬ (y.c = w.c ∧ y.f = w.f)) (h4 : 4 ≤ (dropW l w.c).length) : putW l w = (l, false) := by rw [putW_no h, if_pos h4]
theorem putW_more {l : List Wt} {w : Wt} (h : ∀ y ∈ l, ¬ (y.c = w.c ∧ y.f = w.f)) (h4 : (dropW l w.c).length < 4) : putW l w = (dropW l w.c ++ [w], true) := by rw [putW_no h, if_neg (by omega)]
/-- A line, and whether there was room. -/
def putA (p : List Wt × Bool) : AV := .tp [ws p.1, .sc (.bool p.2)]
theorem putA_set {l : List Wt} {w : Wt} {i : Nat} (h : putW l w = (l.set i w, true)) : AV.tp [.sl ((l.map Wt.e).set i w.e), .sc (.bool true)] = putA (putW l w) := by
  rw [h]; unfold putA ws; rw [List.map_set]
theorem putA_app {l m : List Wt} {w : Wt} (h : putW l w = (m ++ [w], true)) : AV.tp [.sl (m.map Wt.e ++ [w.e]), .sc (.bool true)] = putA (putW l w) := by
  rw [h]; unfold putA ws; rw [List.map_append]; rfl
theorem putA_no {l : List Wt} {w : Wt} (h : putW l w = (l, false)) : AV.tp [.sl (l.map Wt.e), .sc (.bool false)] = putA (putW l w) := by
  rw [h]; rfl
theorem idg_nat {α : Type} {p : α → Bool} {l : List α} (h : 0 ≤ idg p l) : ∃ h : (idg p l).toNat < l.length, p (l[(idg p l).toNat]'h) = true := by
  rcases idg_is p l with ⟨e, _⟩ | ⟨n, hn, e, hp, _⟩
  · rw [e] at h; omega
  · have : (idg p l).toNat = n := by omega
    refine ⟨by omega, ?_⟩
    simpa only [this] using hp
theorem idg_neg {α : Type} {p : α → Bool} {l : List α} (h : idg p l < 0) : ∀ x ∈ l, p x = false := by
  rcases idg_is p l with ⟨_, h1⟩ | ⟨n, hn, e, hp, _⟩
  · exact h1
  · omega
theorem free_t {d : Dk} {now : Int} {w : Wt} (h : (cls d.l now w.c w.f w.m).length = 0) : free d now w = !ahead d.w w.c w.f := by
  unfold free; rw [List.length_eq_zero_iff.1 h]; simp
theorem free_f {d : Dk} {now : Int} {w : Wt} (h : ¬ (cls d.l now w.c w.f w.m).length = 0) : free d now w = false := by
  unfold free
  have : cls d.l now w.c w.f w.m ≠ [] := fun e => h (by rw [e]; rfl)
  simp [this]
section
variable {o : Oper} {n : Nat} {v : Env} {A : List Blk} {K : AV → List Blk → Prop} {E : AV → List Blk → Prop}
theorem run_neW (a b : Wt) (W : World) : (binOp .neq 25 (.agg #[.int .i64 a.c, .int .i64 a.s, .int .i64 a.f, .int .i64 a.m]) (.agg #[.int .i64 b.c, .int .i64 b.s, .int .i64 b.f, .int .i64 b.m])).run Try.prog W = .ok (.bool (!decide (a = b))) W := by
  have hf : Try.prog.fieldsOf 25 = (match Try.prog.underlying 25 with | some (.struct fs) => fs | _ => #[]) := by kernel_rfl
  have hq : ∀ (x y : Int), (Op.equalIn 9999 3 (.int .i64 x) (.int .i64 y)).run Try.prog W = .ok (x == y) W := fun x y => run_equalIn_int W 9998 3 .i64 .i64 x y Try.underlying3
  rw [run_neq_struct, run_equalIn_struct W 9999 25 _ _ (by kernel_rfl) (by kernel_rfl), hf, Try.underlying25]
  simp [Op.eqFields, part, Try.isAgg3, hq]
  obtain ⟨ac, af, am, au⟩ := a
  obtain ⟨bc, bf, bm, bu⟩ := b
  simp only [Wt.mk.injEq]
  (repeat' split) <;> simp [*]
theorem AOp.neW {ty' : TypeId} {x y : Operand} {cs ds : List AV} {a b : Wt} (hop : o.op = .binOp .neq 25 x y ty') (hx : ev v x = some (.ag cs)) (hy : ev v y = some (.ag ds)) (hcs : cs = a.e) (hds : ds = b.e) (q : K (.sc (.bool (!decide (a = b)))) A) : AOp Try.prog o n v A K E :=
  AOp.binA (xs := [.int .i64 a.c, .int .i64 a.s, .int .i64 a.f, .int .i64 a.m]) (ys := [.int .i64 b.c, .int .i64 b.s, .int .i64 b.f, .int .i64 b.m]) hcs hds hop hx hy (fun W => run_eqGuard_agg W .neq 25 x y _ _ (by kernel_rfl)) (run_neW a b) q
theorem run_eqW (a b : Wt) (W : World) : (binOp .eql 25 (.agg #[.int .i64 a.c, .int .i64 a.s, .int .i64 a.f, .int .i64 a.m]) (.agg #[.int .i64 b.c, .int .i64 b.s, .int .i64 b.f, .int .i64 b.m])).run Try.prog W = .ok (.bool (decide (a = b))) W := by
  have hf : Try.prog.fieldsOf 25 = (match Try.prog.underlying 25 with | some (.struct fs) => fs | _ => #[]) := by kernel_rfl
  have hq : ∀ (x y : Int), (Op.equalIn 9999 3 (.int .i64 x) (.int .i64 y)).run Try.prog W = .ok (x == y) W := fun x y => run_equalIn_int W 9998 3 .i64 .i64 x y Try.underlying3
  rw [run_eql_struct, run_equalIn_struct W 9999 25 _ _ (by kernel_rfl) (by kernel_rfl), hf, Try.underlying25]
  simp [Op.eqFields, part, Try.isAgg3, hq]
  obtain ⟨ac, af, am, au⟩ := a
  obtain ⟨bc, bf, bm, bu⟩ := b
  simp only [Wt.mk.injEq]
  (repeat' split) <;> simp [*]
theorem AOp.eqW {ty' : TypeId} {x y : Operand} {cs ds : List AV} {a b : Wt} (hop : o.op = .binOp .eql 25 x y ty') (hx : ev v x = some (.ag cs)) (hy : ev v y = some (.ag ds)) (hcs : cs = a.e) (hds : ds = b.e) (q : K (.sc (.bool (decide (a = b)))) A) : AOp Try.prog o n v A K E :=
  AOp.binA (xs := [.int .i64 a.c, .int .i64 a.s, .int .i64 a.f, .int .i64 a.m]) (ys := [.int .i64 b.c, .int .i64 b.s, .int .i64 b.f, .int .i64 b.m]) hcs hds hop hx hy (fun W => run_eqGuard_agg W .eql 25 x y _ _ (by kernel_rfl)) (run_eqW a b) q
end

theorem aheadL (l : List Wt) (c f : Int) (hl : l.length ≤ 1000000) : Pur Try.prog 103 [ws l, .sc (.int .i64 c), .sc (.int .i64 f)] (.sc (.bool (ahead l c f))) := by
  refine acallsN Try.func103 rfl Try.ntmps103 rfl ?_
  refine aw_seq ?_
  refine aw_region ?_
  refine aops_cons rfl rfl (AOp.assign rfl rfl ?_)
  refine aops_nil ?_
  refine aw_seq ?_
  refine aw_seq ?_
  refine aw_region ?_
  refine aops_cons rfl rfl (AOp.move rfl rfl ?_)
  refine aops_cons rfl rfl (AOp.lenS (by first | exact List.length_map _ | rfl) Try.underlying28 rfl rfl ?_)
  refine aops_cons rfl rfl (AOp.move rfl rfl ?_)
  refine aops_nil ?_
  refine aw_block ?_
  refine aw_loop (β := Nat) (S := (fun (z0 : Nat) => match z0 with | i => [(0, ws l), (1, .sc (.int .i64 c)), (2, .sc (.int .i64 f)), (9, ws l), (10, .sc (.int .i64 (l.length : Nat))), (11, .sc (.int .i64 (i : Int)))])) (B := (fun (z0 : Nat) => match z0 with | i => [])) (pre := (fun (z0 : Nat) => match z0 with | i => i ≤ l.length ∧ ∀ k (hk : k < l.length), k < i → ¬ l[k].f = f)) (μ := (fun (z0 : Nat) => match z0 with | i => l.length - i)) 0 (wk_env (sube_cons rfl (sube_cons rfl (sube_cons rfl (sube_cons rfl (sube_cons rfl (sube_cons rfl (sube_nil _)))))))) ?_ ?_
  · exact ⟨Nat.zero_le _, fun k h h0 => by omega⟩
  · rintro i ⟨hi, ha⟩
    change AW _ _ _ ([(0, ws l), (1, .sc (.int .i64 c)), (2, .sc (.int .i64 f)), (9, ws l), (10, .sc (.int .i64 (l.length : Nat))), (11, .sc (.int .i64 (i : Int)))] : Env) ([] : List Blk) _
    refine aw_seq ?_
    refine aw_region ?_
    refine aops_cons rfl rfl (AOp.lss rfl rfl rfl ?_)
    refine aops_nil ?_
    refine aw_seq ?_
    refine aw_cond _ rfl (fun h1 => ?_) (fun h1 => ?_)
    focus
      have h1_ := h1
      try simp only [List.length_map, List.length_cons, List.length_nil, nrm] at h1
      all_goals try (exfalso; first | (simp at h1_; done) | omega)
      all_goals
        refine aw_skip ?_
        skip
    rotate_right
    focus
      have h1_ := h1
      try simp only [List.length_map, List.length_cons, List.length_nil, nrm] at h1
      all_goals try (exfalso; first | (simp at h1_; done) | omega)
      all_goals
        refine aw_exit ?_
        refine aw_seq ?_
        refine aw_region ?_
        refine aops_cons rfl rfl (AOp.assign rfl rfl ?_)
        refine aops_nil ?_
        refine aw_weak (wk_drop (List.nil_sublist _)) ?_
        refine aw_ret ?_
        refine ⟨_, (res1 Try.results103 rfl), ?_⟩
        refine ⟨?_, rfl⟩
        rw [ahead_none (fun k hk => ha k hk (by omega))]; rfl
    all_goals
      refine aw_seq ?_
      refine aw_block ?_
      refine aw_seq ?_
      refine aw_region ?_
      refine aops_cons rfl rfl (AOp.indexLN Try.underlying28 Try.sizeOf25 rfl rfl rfl (by first | omega | (simp <;> omega) | (simp at * <;> omega)) (fun _ => rfl) ?_)
      refine aops_cons rfl rfl (AOp.loadN Try.isAgg25 Try.sizeOf25 rfl rfl (reads_im _ _) rfl rfl ?_)
      refine aops_cons rfl rfl (AOp.alloc Try.zeroValue25 (by kernel_rfl) rfl rfl ?_); intro b1
      refine aops_cons rfl rfl (AOp.storeB' Try.sizeOf25 rfl rfl rfl rfl rfl (pull_here _ _) rfl rfl ?_)
      refine aops_nil ?_
      refine aw_seq ?_
      refine aw_seq ?_
      refine aw_region ?_
      refine aops_cons rfl rfl (AOp.fieldB Try.underlying25 rfl Try.sizeOf3 (by decide) rfl rfl rfl ?_)
      refine aops_cons rfl rfl (AOp.load1 Try.isAgg3 rfl rfl (reads_box _ (.head _)) rfl ?_)
      refine aops_cons rfl rfl (AOp.move rfl rfl ?_)
      refine aops_cons rfl rfl (AOp.neq rfl rfl rfl ?_)
      refine aops_nil ?_
      refine aw_cond _ rfl (fun h2 => ?_) (fun h2 => ?_)
      focus
        have h2_ := h2
        try simp only [List.length_map, List.length_cons, List.length_nil, nrm] at h2
        all_goals try (exfalso; first | (simp at h2_; done) | omega)
        all_goals
          refine aw_exit ?_
          refine aw_region ?_
          refine aops_cons rfl rfl (AOp.addE rfl rfl rfl (by first | omega | (simp <;> omega) | (simp at * <;> omega)) (by first | omega | (simp <;> omega) | (simp at * <;> omega)) ?_)
          refine aops_cons rfl rfl (AOp.move rfl rfl ?_)
          refine aops_nil ?_
          refine ⟨i + 1, ⟨by omega, fun k hk h => ?_⟩, by dsimp only; omega, ((wk_drop (by (focus ((repeat (first | exact List.Sublist.slnil | apply List.Sublist.cons_cons | apply List.Sublist.cons)); done)))).trans (wk_env (sube_cons rfl (sube_cons rfl (sube_cons rfl (sube_cons rfl (sube_cons rfl (sube_cons rfl (sube_nil _)))))))))⟩
          rcases Nat.lt_or_ge k i with h0 | h0
          · exact ha k hk h0
          · have e : k = i := by omega
            subst e; omega
      rotate_right
      focus
        have h2_ := h2
        try simp only [List.length_map, List.length_cons, List.length_nil, nrm] at h2
        all_goals try (exfalso; first | (simp at h2_; done) | omega)
        all_goals
          refine aw_skip ?_
          skip
      all_goals
        refine aw_seq ?_
        refine aw_region ?_
        refine aops_cons rfl rfl (AOp.fieldB Try.underlying25 rfl Try.sizeOf3 (by decide) rfl rfl rfl ?_)
        refine aops_cons rfl rfl (AOp.load1 Try.isAgg3 rfl rfl (reads_box _ (.head _)) rfl ?_)
        refine aops_cons rfl rfl (AOp.move rfl rfl ?_)
        refine aops_cons rfl rfl (AOp.neq rfl rfl rfl ?_)
        refine aops_cons rfl rfl (AOp.assign rfl rfl ?_)
        refine aops_nil ?_
        refine aw_weak (wk_drop (List.nil_sublist _)) ?_
        refine aw_ret ?_
        refine ⟨_, (res1 Try.results103 rfl), ?_⟩
        refine ⟨?_, rfl⟩
        rw [ahead_some (i := i) (by omega) ha (by omega)]

theorem rAheadL (l : List Wt) (c f : Int) (hl : l.length ≤ 1000000) : Pur Try.prog 25 [ws l, .sc (.int .i64 c), .sc (.int .i64 f)] (.sc (.bool (ahead l c f))) := by
  refine acallsN Try.func25 rfl Try.ntmps25 rfl ?_
  refine aw_seq ?_
  refine aw_region ?_
  refine aops_cons rfl rfl (AOp.assign rfl rfl ?_)
  refine aops_nil ?_
  refine aw_seq ?_
  refine aw_seq ?_
  refine aw_region ?_
  refine aops_cons rfl rfl (AOp.assign rfl rfl ?_)
  refine aops_nil ?_
  refine aw_block ?_
  refine aw_loop (β := Nat) (S := (fun (z0 : Nat) => match z0 with | i => [(0, ws l), (1, .sc (.int .i64 c)), (2, .sc (.int .i64 f)), (7, .sc (.int .i64 (i : Int)))])) (B := (fun (z0 : Nat) => match z0 with | i => [])) (pre := (fun (z0 : Nat) => match z0 with | i => i ≤ l.length ∧ ∀ k (hk : k < l.length), k < i → ¬ l[k].f = f)) (μ := (fun (z0 : Nat) => match z0 with | i => l.length - i)) 0 (wk_env (sube_cons rfl (sube_cons rfl (sube_cons rfl (sube_cons rfl (sube_nil _)))))) ?_ ?_
  · exact ⟨Nat.zero_le _, fun k h h0 => by omega⟩
  · rintro i ⟨hi, ha⟩
    change AW _ _ _ ([(0, ws l), (1, .sc (.int .i64 c)), (2, .sc (.int .i64 f)), (7, .sc (.int .i64 (i : Int)))] : Env) ([] : List Blk) _
    refine aw_seq ?_
    refine aw_seq ?_
    refine aw_region ?_
    refine aops_cons rfl rfl (AOp.move rfl rfl ?_)
    refine aops_cons rfl rfl (AOp.move rfl rfl ?_)
    refine aops_cons rfl rfl (AOp.lenS (by first | exact List.length_map _ | rfl) Try.underlying28 rfl rfl ?_)
    refine aops_cons rfl rfl (AOp.lss rfl rfl rfl ?_)
    refine aops_nil ?_
    refine aw_cond _ rfl (fun h1 => ?_) (fun h1 => ?_)
    focus
      have h1_ := h1
      try simp only [List.length_map, List.length_cons, List.length_nil, nrm] at h1
      all_goals try (exfalso; first | (simp at h1_; done) | omega)
      all_goals
        refine aw_skip ?_
        skip
    rotate_right
    focus
      have h1_ := h1
      try simp only [List.length_map, List.length_cons, List.length_nil, nrm] at h1
      all_goals try (exfalso; first | (simp at h1_; done) | omega)
      all_goals
        refine aw_exit ?_
        refine aw_seq ?_
        refine aw_region ?_
        refine aops_cons rfl rfl (AOp.assign rfl rfl ?_)
        refine aops_nil ?_
        refine aw_weak (wk_drop (List.nil_sublist _)) ?_
        refine aw_ret ?_
        refine ⟨_, (res1 Try.results25 rfl), ?_⟩
        refine ⟨?_, rfl⟩
        rw [ahead_none (fun k hk => ha k hk (by omega))]; rfl
    all_goals
      refine aw_seq ?_
      refine aw_block ?_
      refine aw_seq ?_
      refine aw_seq ?_
      refine aw_region ?_
      refine aops_cons rfl rfl (AOp.move rfl rfl ?_)
      refine aops_cons rfl rfl (AOp.move rfl rfl ?_)
      refine aops_cons rfl rfl (AOp.indexLN Try.underlying28 Try.sizeOf25 rfl rfl rfl (by first | omega | (simp <;> omega) | (simp at * <;> omega)) (fun _ => rfl) ?_)
      refine aops_cons rfl rfl (AOp.fieldI Try.underlying25 rfl Try.sizeOf3 (by decide) rfl rfl rfl ?_)
      refine aops_cons rfl rfl (AOp.load1 Try.isAgg3 rfl rfl (reads_im _ _) rfl ?_)
      refine aops_cons rfl rfl (AOp.move rfl rfl ?_)
      refine aops_cons rfl rfl (AOp.eql rfl rfl rfl ?_)
      refine aops_cons rfl rfl (AOp.move rfl rfl ?_)
      refine aops_guard 7 true 21 _ rfl rfl rfl rfl rfl (fun g2 => ?_) (fun g2 => ?_)
      focus
        have g2_ := g2
        try simp only [List.length_map, List.length_cons, List.length_nil, nrm] at g2
        all_goals try (exfalso; first | (simp at g2_; done) | omega)
        all_goals
          refine AOp.move rfl rfl ?_
          refine aops_guard 7 true 21 _ rfl rfl rfl rfl rfl (fun _ => ?_) (fun hh => by exfalso; first | (rw [g2_] at hh; exact absurd hh (by decide)) | (revert hh; simp [g2_]))
          refine AOp.move rfl rfl ?_
          refine aops_guard 7 true 21 _ rfl rfl rfl rfl rfl (fun _ => ?_) (fun hh => by exfalso; first | (rw [g2_] at hh; exact absurd hh (by decide)) | (revert hh; simp [g2_]))
          refine AOp.indexLN Try.underlying28 Try.sizeOf25 rfl rfl rfl (by first | omega | (simp <;> omega) | (simp at * <;> omega)) (fun _ => rfl) ?_
          refine aops_guard 7 true 21 _ rfl rfl rfl rfl rfl (fun _ => ?_) (fun hh => by exfalso; first | (rw [g2_] at hh; exact absurd hh (by decide)) | (revert hh; simp [g2_]))
          refine AOp.fieldI Try.underlying25 rfl Try.sizeOf3 (by decide) rfl rfl rfl ?_
          refine aops_guard 7 true 21 _ rfl rfl rfl rfl rfl (fun _ => ?_) (fun hh => by exfalso; first | (rw [g2_] at hh; exact absurd hh (by decide)) | (revert hh; simp [g2_]))
          refine AOp.load1 Try.isAgg3 rfl rfl (reads_im _ _) rfl ?_
          refine aops_guard 7 true 21 _ rfl rfl rfl rfl rfl (fun _ => ?_) (fun hh => by exfalso; first | (rw [g2_] at hh; exact absurd hh (by decide)) | (revert hh; simp [g2_]))
          refine AOp.move rfl rfl ?_
          refine aops_guard 7 true 21 _ rfl rfl rfl rfl rfl (fun _ => ?_) (fun hh => by exfalso; first | (rw [g2_] at hh; exact absurd hh (by decide)) | (revert hh; simp [g2_]))
          refine AOp.eql rfl rfl rfl ?_
      rotate_right
      focus
        have g2_ := g2
        try simp only [List.length_map, List.length_cons, List.length_nil, nrm] at g2
        all_goals try (exfalso; first | (simp at g2_; done) | omega)
        all_goals
          refine aops_guard 7 true 21 _ rfl rfl rfl rfl rfl (fun hh => by exfalso; first | (rw [g2_] at hh; exact absurd hh (by decide)) | (revert hh; simp [g2_])) (fun _ => ?_)
          refine aops_guard 7 true 21 _ rfl rfl rfl rfl rfl (fun hh => by exfalso; first | (rw [g2_] at hh; exact absurd hh (by decide)) | (revert hh; simp [g2_])) (fun _ => ?_)
          refine aops_guard 7 true 21 _ rfl rfl rfl rfl rfl (fun hh => by exfalso; first | (rw [g2_] at hh; exact absurd hh (by decide)) | (revert hh; simp [g2_])) (fun _ => ?_)
          refine aops_guard 7 true 21 _ rfl rfl rfl rfl rfl (fun hh => by exfalso; first | (rw [g2_] at hh; exact absurd hh (by decide)) | (revert hh; simp [g2_])) (fun _ => ?_)
          refine aops_guard 7 true 21 _ rfl rfl rfl rfl rfl (fun hh => by exfalso; first | (rw [g2_] at hh; exact absurd hh (by decide)) | (revert hh; simp [g2_])) (fun _ => ?_)
          refine aops_guard 7 true 21 _ rfl rfl rfl rfl rfl (fun hh => by exfalso; first | (rw [g2_] at hh; exact absurd hh (by decide)) | (revert hh; simp [g2_])) (fun _ => ?_)
      all_goals
        first
        | refine aops_cons rfl rfl (AOp.pick_t rfl rfl (by first | assumption | rfl) rfl ?_)
        | refine aops_cons rfl rfl (AOp.pick_f rfl rfl (by first | assumption | rfl) rfl ?_)
        refine aops_nil ?_
        refine aw_cond _ rfl (fun h3 => ?_) (fun h3 => ?_)
        focus
          have h3_ := h3
          try simp only [List.length_map, List.length_cons, List.length_nil, nrm] at h3
          all_goals try (exfalso; first | (simp at h3_; done) | omega)
          all_goals
            refine aw_seq ?_
            refine aw_region ?_
            refine aops_cons rfl rfl (AOp.assign rfl rfl ?_)
            refine aops_nil ?_
            refine aw_weak (wk_drop (List.nil_sublist _)) ?_
            refine aw_ret ?_
            refine ⟨_, (res1 Try.results25 rfl), ?_⟩
            refine ⟨?_, rfl⟩
            rw [ahead_some (i := i) (by omega) ha (by omega), decide_eq_true (by omega)]; rfl
        rotate_right
        focus
          have h3_ := h3
          try simp only [List.length_map, List.length_cons, List.length_nil, nrm] at h3
          all_goals try (exfalso; first | (simp at h3_; done) | omega)
          all_goals
            refine aw_skip ?_
            skip
        all_goals
          refine aw_seq ?_
          refine aw_region ?_
          refine aops_cons rfl rfl (AOp.move rfl rfl ?_)
          refine aops_cons rfl rfl (AOp.move rfl rfl ?_)
          refine aops_cons rfl rfl (AOp.indexLN Try.underlying28 Try.sizeOf25 rfl rfl rfl (by first | omega | (simp <;> omega) | (simp at * <;> omega)) (fun _ => rfl) ?_)
          refine aops_cons rfl rfl (AOp.fieldI Try.underlying25 rfl Try.sizeOf3 (by decide) rfl rfl rfl ?_)
          refine aops_cons rfl rfl (AOp.load1 Try.isAgg3 rfl rfl (reads_im _ _) rfl ?_)
          refine aops_cons rfl rfl (AOp.move rfl rfl ?_)
          refine aops_cons rfl rfl (AOp.eql rfl rfl rfl ?_)
          refine aops_nil ?_
          refine aw_cond _ rfl (fun h4 => ?_) (fun h4 => ?_)
          focus
            have h4_ := h4
            try simp only [List.length_map, List.length_cons, List.length_nil, nrm] at h4
            all_goals try (exfalso; first | (simp at h4_; done) | omega)
            all_goals
              refine aw_seq ?_
              refine aw_region ?_
              refine aops_cons rfl rfl (AOp.assign rfl rfl ?_)
              refine aops_nil ?_
              refine aw_weak (wk_drop (List.nil_sublist _)) ?_
              refine aw_ret ?_
              refine ⟨_, (res1 Try.results25 rfl), ?_⟩
              refine ⟨?_, rfl⟩
              rw [ahead_some (i := i) (by omega) ha (by omega), decide_eq_false (by omega)]; rfl
          rotate_right
          focus
            have h4_ := h4
            try simp only [List.length_map, List.length_cons, List.length_nil, nrm] at h4
            all_goals try (exfalso; first | (simp at h4_; done) | omega)
            all_goals
              refine aw_skip ?_
              skip
          all_goals
            refine aw_region ?_
            refine aops_cons rfl rfl (AOp.move rfl rfl ?_)
            refine aops_cons rfl rfl (AOp.addE rfl rfl rfl (by first | omega | (simp <;> omega) | (simp at * <;> omega)) (by first | omega | (simp <;> omega) | (simp at * <;> omega)) ?_)
            refine aops_cons rfl rfl (AOp.assign rfl rfl ?_)
            refine aops_nil ?_
            refine ⟨i + 1, ⟨by omega, fun k hk h => ?_⟩, by dsimp only; omega, (wk_env (sube_cons rfl (sube_cons rfl (sube_cons rfl (sube_cons rfl (sube_nil _))))))⟩
            rcases Nat.lt_or_ge k i with h0 | h0
            · exact ha k hk h0
            · have e : k = i := by omega
              subst e; omega

theorem rDropW (l : List Wt) (c : Int) (hl : l.length ≤ 1000000) : ACalls Try.prog 111 [ws l, .sc (.int .i64 c)] [] (fun r A' => ∃ w, r = .sc w ∧ A' = [rowW w (dropW l c)]) (fun _ _ => False) := by
  refine acallsN Try.func111 rfl Try.ntmps111 rfl ?_
  refine aw_seq ?_
  refine aw_region ?_
  refine aops_cons rfl rfl (AOp.assign rfl rfl ?_)
  refine aops_nil ?_
  refine aw_seq ?_
  refine aw_region ?_
  refine aops_cons rfl rfl (AOp.assign rfl rfl ?_)
  refine aops_nil ?_
  refine aw_seq ?_
  refine aw_seq ?_
  refine aw_region ?_
  refine aops_cons rfl rfl (AOp.assign rfl rfl ?_)
  refine aops_nil ?_
  refine aw_block ?_
  refine aw_loop (β := Nat × Value) (S := (fun (z0 : Nat × Value) => match z0 with | (i, w) => [(0, ws l), (1, .sc (.int .i64 c)), (5, .sc w), (6, .sc (.int .i64 (i : Int)))])) (B := (fun (z0 : Nat × Value) => match z0 with | (i, w) => [.row w 25 4 (((l.take i).filter (fun (x : Wt) => !decide (x.c = c))).map Wt.e)])) (pre := (fun (z0 : Nat × Value) => match z0 with | (i, w) => i ≤ l.length)) (μ := (fun (z0 : Nat × Value) => match z0 with | (i, w) => l.length - i)) (0, .slice none 0 0) ((wk_nil 25 4).trans (wk_env (sube_cons rfl (sube_cons rfl (sube_cons rfl (sube_cons rfl (sube_nil _))))))) ?_ ?_
  · exact Nat.zero_le _
  · rintro ⟨i, w⟩ hp
    change AW _ _ _ ([(0, ws l), (1, .sc (.int .i64 c)), (5, .sc w), (6, .sc (.int .i64 (i : Int)))] : Env) ([.row w 25 4 (((l.take i).filter (fun (x : Wt) => !decide (x.c = c))).map Wt.e)] : List Blk) _
    replace hp : i ≤ l.length := hp
    refine aw_seq ?_
    refine aw_seq ?_
    refine aw_region ?_
    refine aops_cons rfl rfl (AOp.move rfl rfl ?_)
    refine aops_cons rfl rfl (AOp.move rfl rfl ?_)
    refine aops_cons rfl rfl (AOp.lenS (by first | exact List.length_map _ | rfl) Try.underlying28 rfl rfl ?_)
    refine aops_cons rfl rfl (AOp.lss rfl rfl rfl ?_)
    refine aops_nil ?_
    refine aw_cond _ rfl (fun h1 => ?_) (fun h1 => ?_)
    focus
      have h1_ := h1
      try simp only [List.length_map, List.length_cons, List.length_nil, nrm] at h1
      all_goals try (exfalso; first | (simp at h1_; done) | omega)
      all_goals
        refine aw_skip ?_
        skip
    rotate_right
    focus
      have h1_ := h1
      try simp only [List.length_map, List.length_cons, List.length_nil, nrm] at h1
      all_goals try (exfalso; first | (simp at h1_; done) | omega)
      all_goals
        refine aw_exit ?_
        refine aw_seq ?_
        refine aw_region ?_
        refine aops_cons rfl rfl (AOp.move rfl rfl ?_)
        refine aops_cons rfl rfl (AOp.assign rfl rfl ?_)
        refine aops_nil ?_
        refine aw_ret ?_
        refine ⟨_, (res1 Try.results111 rfl), ?_⟩
        refine ⟨w, rfl, ?_⟩
        rw [List.take_of_length_le (by omega)]; rfl
    all_goals
      refine aw_seq ?_
      refine aw_block ?_
      refine aw_seq ?_
      refine aw_region ?_
      refine aops_cons rfl rfl (AOp.move rfl rfl ?_)
      refine aops_cons rfl rfl (AOp.move rfl rfl ?_)
      refine aops_cons rfl rfl (AOp.indexLN Try.underlying28 Try.sizeOf25 rfl rfl rfl (by first | first | omega | (simp <;> omega) | (simp at * <;> omega) | (have := List.length_filter_le (fun (x : Wt) => !decide (x.c = c)) (l.take i); simp at this ⊢; omega)) (fun _ => rfl) ?_)
      refine aops_cons rfl rfl (AOp.fieldI Try.underlying25 rfl Try.sizeOf3 (by decide) rfl rfl rfl ?_)
      refine aops_cons rfl rfl (AOp.load1 Try.isAgg3 rfl rfl (reads_im _ _) rfl ?_)
      refine aops_cons rfl rfl (AOp.move rfl rfl ?_)
      refine aops_cons rfl rfl (AOp.neq rfl rfl rfl ?_)
      refine aops_nil ?_
      refine aw_cond _ rfl (fun h2 => ?_) (fun h2 => ?_)
      focus
        have h2_ := h2
        try simp only [List.length_map, List.length_cons, List.length_nil, nrm] at h2
        all_goals try (exfalso; first | (simp at h2_; done) | omega)
        all_goals
          refine aw_region ?_
          refine aops_cons rfl rfl (AOp.move rfl rfl ?_)
          refine aops_cons rfl rfl (AOp.move rfl rfl ?_)
          refine aops_cons rfl rfl (AOp.move rfl rfl ?_)
          refine aops_cons rfl rfl (AOp.indexLN Try.underlying28 Try.sizeOf25 rfl rfl rfl (by first | first | omega | (simp <;> omega) | (simp at * <;> omega) | (have := List.length_filter_le (fun (x : Wt) => !decide (x.c = c)) (l.take i); simp at this ⊢; omega)) (fun _ => rfl) ?_)
          refine aops_cons rfl rfl (AOp.loadN Try.isAgg25 Try.sizeOf25 rfl rfl (reads_im _ _) rfl rfl ?_)
          refine aops_cons rfl rfl (AOp.buildS' Try.underlying28 Try.sizeOf25 Try.zeroValue25 rfl rfl rfl rfl rfl rfl rfl rfl rfl rfl rfl ?_)
          (refine aops_cons rfl rfl (AOp.append' (bytes := 32) Try.zeroValue25 Try.sizeOf25 Try.underlying28 (by kernel_rfl) rfl rfl rfl (pull_here _ _) rfl (src_sl Try.underlying28 (all_len rfl)) (by first | first | omega | (simp <;> omega) | (simp at * <;> omega) | (have := List.length_filter_le (fun (x : Wt) => !decide (x.c = c)) (l.take i); simp at this ⊢; omega)) (by decide) ?_); intro b1)
          refine aops_cons rfl rfl (AOp.assign rfl rfl ?_)
          refine aops_nil ?_
          skip
      rotate_right
      focus
        have h2_ := h2
        try simp only [List.length_map, List.length_cons, List.length_nil, nrm] at h2
        all_goals try (exfalso; first | (simp at h2_; done) | omega)
        all_goals
          refine aw_skip ?_
          skip
      all_goals
        refine aw_region ?_
        refine aops_cons rfl rfl (AOp.move rfl rfl ?_)
        refine aops_cons rfl rfl (AOp.addE rfl rfl rfl (by first | first | omega | (simp <;> omega) | (simp at * <;> omega) | (have := List.length_filter_le (fun (x : Wt) => !decide (x.c = c)) (l.take i); simp at this ⊢; omega)) (by first | first | omega | (simp <;> omega) | (simp at * <;> omega) | (have := List.length_filter_le (fun (x : Wt) => !decide (x.c = c)) (l.take i); simp at this ⊢; omega)) ?_)
        refine aops_cons rfl rfl (AOp.assign rfl rfl ?_)
        refine aops_nil ?_
        first
        | (refine ⟨(i + 1, _), ?_, ?_, (wk_drop ?_).trans ((wk_roweq (A := []) (filter_yes' (p := fun (x : Wt) => !decide (x.c = c)) ?_ ?_)).trans (wk_env (sube_cons rfl (sube_cons rfl (sube_cons rfl (sube_cons rfl (sube_nil _)))))))⟩; (dsimp only; omega); (dsimp only; omega); (focus ((repeat (first | exact List.Sublist.slnil | apply List.Sublist.cons_cons | apply List.Sublist.cons)); done)); omega; focus ((try dsimp only); rw [Bool.not_eq_true', decide_eq_false_iff_not]; omega))
        | (refine ⟨(i + 1, _), ?_, ?_, (wk_drop ?_).trans ((wk_roweq (A := []) (filter_no' (p := fun (x : Wt) => !decide (x.c = c)) ?_ ?_)).trans (wk_env (sube_cons rfl (sube_cons rfl (sube_cons rfl (sube_cons rfl (sube_nil _)))))))⟩; (dsimp only; omega); (dsimp only; omega); (focus ((repeat (first | exact List.Sublist.slnil | apply List.Sublist.cons_cons | apply List.Sublist.cons)); done)); omega; focus ((try dsimp only); rw [Bool.not_eq_false', decide_eq_true_eq]; omega))

theorem rDropWP (l : List Wt) (c : Int) (hl : l.length ≤ 1000000) : Pur Try.prog 111 [ws l, .sc (.int .i64 c)] (ws (dropW l c)) := acalls_frz (rDropW l c hl)

end Go.Proofs.Ytdacnebhlgibhaa
