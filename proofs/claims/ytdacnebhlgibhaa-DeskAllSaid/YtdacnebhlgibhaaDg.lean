/- Own text: those who may are let have it. -/
import Derived.Test.YtdacnebhlgibhaaDf
import Derived.Test.YtdacnebhlgibhaaAwP
set_option linter.unusedVariables false
set_option linter.unusedSimpArgs false
set_option linter.all false
set_option maxRecDepth 100000
set_option maxHeartbeats 2000000
namespace Go.Proofs.Ytdacnebhlgibhaa
open Go Go.Aw

def prs (l : List (Int × Int)) : AV := .sl (l.map pe)
section
variable {o : Oper} {n : Nat} {v : Env} {A : List Blk} {K : AV → List Blk → Prop} {E : AV → List Blk → Prop}
theorem AOp.eqP {ty' : TypeId} {x y : Operand} {cs ds : List AV} {a b : Int × Int} (hop : o.op = .binOp .eql 41 x y ty') (hx : ev v x = some (.ag cs)) (hy : ev v y = some (.ag ds)) (hcs : cs = pe a) (hds : ds = pe b) (q : K (.sc (.bool (decide (a = b)))) A) : AOp Try.prog o n v A K E :=
  AOp.binA (xs := [.int .i64 a.1, .int .i64 a.2]) (ys := [.int .i64 b.1, .int .i64 b.2]) hcs hds hop hx hy (fun W => run_eqGuard_agg W .eql 41 x y _ _ (by kernel_rfl)) (run_eqP Try.underlying41 Try.underlying3 Try.sizeOf3 Try.isAgg3 a b) q
end
theorem idg_mem {l : List (Int × Int)} {x : Int × Int} : decide (0 ≤ idg (fun y => decide (x = y)) l) = decide (x ∈ l) := by
  rcases idg_is (fun y => decide (x = y)) l with ⟨e, h⟩ | ⟨n, hn, e, hp, _⟩
  · rw [e, decide_eq_false (by omega), decide_eq_false]
    intro hx
    have := h x hx
    simp at this
  · rw [e, decide_eq_true (by omega), decide_eq_true]
    simp only [decide_eq_true_eq] at hp
    rw [hp]; exact List.getElem_mem hn
theorem idg_find {α : Type} {p : α → Bool} {l : List α} (h : 0 ≤ idg p l) (h' : (idg p l).toNat < l.length) : l.find? p = some l[(idg p l).toNat] := by
  rcases idg_is p l with ⟨e, _⟩ | ⟨n, hn, e, hp, hf⟩
  · omega
  · have : (idg p l).toNat = n := by omega
    simp only [this]; exact hf
theorem addC_step {f : Int} {l : List Int} {acc : List (Int × Int)} {j : Nat} (hj : j < l.length) : addC f (l.take (j + 1)) acc = if (f, l[j]) ∈ addC f (l.take j) acc then addC f (l.take j) acc else addC f (l.take j) acc ++ [(f, l[j])] := by
  rw [List.take_add_one, List.getElem?_eq_getElem hj, addC_append]
  rfl
theorem addC_in {f : Int} {l : List Int} {acc : List (Int × Int)} {j : Nat} (hj : j < l.length) (h : (f, l[j]) ∈ addC f (l.take j) acc) : (addC f (l.take j) acc).map pe = (addC f (l.take (j + 1)) acc).map pe := by rw [addC_step hj, if_pos h]
theorem addC_new {f : Int} {l : List Int} {acc : List (Int × Int)} {j : Nat} (hj : j < l.length) (h : ¬ (f, l[j]) ∈ addC f (l.take j) acc) : (addC f (l.take j) acc).map pe ++ [pe (f, l[j])] = (addC f (l.take (j + 1)) acc).map pe := by rw [addC_step hj, if_neg h, List.map_append]; rfl
theorem callsF_step {d : Dk} {now : Int} {acc : List (Int × Int)} {i : Nat} (hi : i < d.w.length) : callsF d now (d.w.take (i + 1)) acc = addC d.w[i].f (cls d.l now d.w[i].c d.w[i].f d.w[i].m) (callsF d now (d.w.take i) acc) := by
  rw [List.take_add_one, List.getElem?_eq_getElem hi, callsF_append]
  rfl
def runA (r : Dk × List Wt) (now : Int) : AV := .tp [dk r.1, ws r.2, prs (callsOf r.1 now)]
def runOf (d : Dk) (now : Int) : Dk × List Wt := runD now d.w.length ⟨prn d.l now, d.w⟩ []
theorem lets_len (d : Dk) (now : Int) (w : Wt) : (lets d now w).l.length ≤ d.l.length + 1 ∧ (lets d now w).w.length ≤ d.w.length := ⟨(len_gr2 d.l _).2, List.length_filter_le _ _⟩

theorem indexP (l : List (Int × Int)) (x : Int × Int) (hl : l.length ≤ 10000000) : Pur Try.prog 108 [prs l, .ag (pe x)] (.sc (.int .i64 (idg (fun y => decide (x = y)) l))) := by
  unfold prs
  refine acallsN Try.func108 rfl Try.ntmps108 rfl ?_
  refine aw_seq ?_
  refine aw_region ?_
  refine aops_cons rfl rfl (AOp.boxI rfl rfl rfl ?_)
  refine aops_cons rfl rfl (AOp.assign rfl rfl ?_)
  refine aops_nil ?_
  refine aw_seq ?_
  refine aw_seq ?_
  refine aw_region ?_
  refine aops_cons rfl rfl (AOp.move rfl rfl ?_)
  refine aops_cons rfl rfl (AOp.lenS (by first | exact List.length_map _ | rfl) Try.underlying37 rfl rfl ?_)
  refine aops_cons rfl rfl (AOp.move rfl rfl ?_)
  refine aops_nil ?_
  refine aw_block ?_
  refine aw_loop (β := Nat) (S := (fun (z0 : Nat) => match z0 with | i => [(0, prs l), (3, .im (pe x)), (7, .sc (.int .i64 (l.length : Nat))), (8, .sc (.int .i64 (i : Int)))])) (B := (fun (z0 : Nat) => match z0 with | i => [])) (pre := (fun (z0 : Nat) => match z0 with | i => i ≤ l.length ∧ ∀ k (hk : k < l.length), k < i → ¬ x = l[k])) (μ := (fun (z0 : Nat) => match z0 with | i => l.length - i)) 0 (wk_env (sube_cons rfl (sube_cons rfl (sube_cons rfl (sube_cons rfl (sube_nil _)))))) ?_ ?_
  · exact ⟨Nat.zero_le _, fun k h h0 => by omega⟩
  · rintro i ⟨hi, ha⟩
    change AW _ _ _ ([(0, prs l), (3, .im (pe x)), (7, .sc (.int .i64 (l.length : Nat))), (8, .sc (.int .i64 (i : Int)))] : Env) ([] : List Blk) _
    refine aw_seq ?_
    refine aw_region ?_
    refine aops_cons rfl rfl (AOp.lss rfl rfl rfl ?_)
    refine aops_nil ?_
    refine aw_seq ?_
    refine aw_cond _ rfl (fun h1 => ?_) (fun h1 => ?_)
    focus
      have h1_ := h1
      try simp only [List.length_map, List.length_cons, List.length_nil, nrm] at h1
      all_goals try (exfalso; first | (simp at h1_; done) | omega)
      all_goals
        refine aw_skip ?_
        skip
    rotate_right
    focus
      have h1_ := h1
      try simp only [List.length_map, List.length_cons, List.length_nil, nrm] at h1
      all_goals try (exfalso; first | (simp at h1_; done) | omega)
      all_goals
        refine aw_exit ?_
        refine aw_seq ?_
        refine aw_region ?_
        refine aops_cons rfl rfl (AOp.assign rfl rfl ?_)
        refine aops_nil ?_
        refine aw_weak (wk_drop (List.nil_sublist _)) ?_
        refine aw_ret ?_
        refine ⟨_, (res1 Try.results108 rfl), ?_⟩
        refine ⟨?_, rfl⟩
        rw [idg_none (p := fun y => decide (x = y)) (fun j h => decide_eq_false (ha j h (by omega)))]; rfl
    all_goals
      refine aw_seq ?_
      refine aw_block ?_
      refine aw_seq ?_
      refine aw_region ?_
      refine aops_cons rfl rfl (AOp.move rfl rfl ?_)
      refine aops_cons rfl rfl (AOp.assign rfl rfl ?_)
      refine aops_nil ?_
      refine aw_seq ?_
      refine aw_draw 5 [0, 0, 0, 0, 0] (by kernel_rfl) (by kernel_rfl) ?_
      refine psq_cons _ rfl (core0 (AOp.loadN Try.isAgg41 Try.sizeOf41 rfl rfl (reads_im _ _) rfl rfl ⟨rfl, rfl⟩)) ?_
      refine psq_cons _ rfl (core0 (AOp.move rfl rfl ⟨rfl, rfl⟩)) ?_
      refine psq_cons _ rfl (core0 (AOp.move rfl rfl ⟨rfl, rfl⟩)) ?_
      refine psq_cons _ rfl (core0 (AOp.indexLN Try.underlying37 Try.sizeOf41 rfl rfl rfl (by first | omega | (simp <;> omega) | (simp at * <;> omega)) (fun _ => rfl) ⟨rfl, rfl⟩)) ?_
      refine psq_cons _ rfl (core0 (AOp.loadN Try.isAgg41 Try.sizeOf41 rfl rfl (reads_im _ _) rfl rfl ⟨rfl, rfl⟩)) ?_
      refine psq_nil ?_
      refine aops_cons rfl rfl (AOp.eqP rfl rfl rfl rfl rfl ?_)
      refine aops_nil ?_
      refine aw_cond _ rfl (fun h2 => ?_) (fun h2 => ?_)
      focus
        have h2_ := h2
        try simp only [List.length_map, List.length_cons, List.length_nil, nrm] at h2
        all_goals try (exfalso; first | (simp at h2_; done) | omega)
        all_goals
          refine aw_seq ?_
          refine aw_region ?_
          refine aops_cons rfl rfl (AOp.move rfl rfl ?_)
          refine aops_cons rfl rfl (AOp.assign rfl rfl ?_)
          refine aops_nil ?_
          refine aw_weak (wk_drop (List.nil_sublist _)) ?_
          refine aw_ret ?_
          refine ⟨_, (res1 Try.results108 rfl), ?_⟩
          refine ⟨?_, rfl⟩
          rw [idg_some (p := fun y => decide (x = y)) (by omega) (fun j h h' => decide_eq_false (ha j h h')) (decide_eq_true (by assumption))]
      rotate_right
      focus
        have h2_ := h2
        try simp only [List.length_map, List.length_cons, List.length_nil, nrm] at h2
        all_goals try (exfalso; first | (simp at h2_; done) | omega)
        all_goals
          refine aw_skip ?_
          skip
      all_goals
        refine aw_region ?_
        refine aops_cons rfl rfl (AOp.addE rfl rfl rfl (by first | omega | (simp <;> omega) | (simp at * <;> omega)) (by first | omega | (simp <;> omega) | (simp at * <;> omega)) ?_)
        refine aops_cons rfl rfl (AOp.move rfl rfl ?_)
        refine aops_nil ?_
        refine ⟨i + 1, ⟨by omega, fun k hk h => ?_⟩, by dsimp only; omega, (wk_env (sube_cons rfl (sube_cons rfl (sube_cons rfl (sube_cons rfl (sube_nil _))))))⟩
        rcases Nat.lt_or_ge k i with h0 | h0
        · exact ha k hk h0
        · have e : k = i := by omega
          subst e; assumption

theorem hasP (l : List (Int × Int)) (x : Int × Int) (hl : l.length ≤ 10000000) : Pur Try.prog 59 [prs l, .ag (pe x)] (.sc (.bool (decide (x ∈ l)))) := by
  unfold prs
  refine acallsN Try.func59 rfl Try.ntmps59 rfl ?_
  refine aw_seq ?_
  refine aw_region ?_
  refine aops_cons rfl rfl (AOp.boxI rfl rfl rfl ?_)
  refine aops_cons rfl rfl (AOp.assign rfl rfl ?_)
  refine aops_nil ?_
  refine aw_seq ?_
  refine aw_region ?_
  refine aops_cons rfl rfl (AOp.move rfl rfl ?_)
  refine aops_cons rfl rfl (AOp.loadN Try.isAgg41 Try.sizeOf41 rfl rfl (reads_im _ _) rfl rfl ?_)
  refine aops_cons rfl rfl (AOp.callP Try.call108 rfl rfl rfl (by exact indexP l x hl) ?_)
  refine aops_cons rfl rfl (AOp.geq rfl rfl rfl ?_)
  refine aops_cons rfl rfl (AOp.assign rfl rfl ?_)
  refine aops_nil ?_
  refine aw_weak (wk_drop (List.nil_sublist _)) ?_
  refine aw_ret ?_
  refine ⟨_, (res1 Try.results59 rfl), ?_⟩
  exact ⟨by rw [idg_mem], rfl⟩

theorem hasR (l : List (Int × Int)) (x : Int × Int) (w : Value) (hl : l.length ≤ 10000000) : ACalls Try.prog 59 [.sc w, .ag (pe x)] [.row w 41 2 (l.map pe)] (fun r A' => r = .sc (.bool (decide (x ∈ l))) ∧ A' = [.row w 41 2 (l.map pe)]) (fun _ _ => False) :=
  acalls_borrow (pre := []) (post := [.ag (pe x)]) (flat_sc _) (hasP l x hl)

theorem runIs (d : Dk) (now : Int) (x : Wt) (b : Nat) (hs : srt d.l) (hll : d.l.length ≤ 1000) (hlw : d.w.length ≤ 1000) : ACalls Try.prog 55 ([.ag x.e] ++ [.sc (.pointer (some ⟨b, 0, none⟩)), .im [.sc (.int .i64 now)]]) [.box b 30 d.e] (fun r A' => r = .sc (.bool (free d now x)) ∧ A' = [.box b 30 d.e]) (fun _ _ => False) := by
  refine acallsN Try.func55 rfl Try.ntmps55 rfl ?_
  refine aw_seq ?_
  refine aw_region ?_
  refine aops_cons rfl rfl (AOp.boxI rfl rfl rfl ?_)
  refine aops_cons rfl rfl (AOp.assign rfl rfl ?_)
  refine aops_nil ?_
  refine aw_seq ?_
  refine aw_region ?_
  refine aops_cons rfl rfl (AOp.loadN Try.isAgg30 Try.sizeOf30 rfl rfl (reads_box _ (.head _)) rfl rfl ?_)
  refine aops_cons rfl rfl (AOp.load1 Try.isAgg3 rfl rfl (reads_im _ _) rfl ?_)
  refine aops_cons rfl rfl (AOp.loadN Try.isAgg25 Try.sizeOf25 rfl rfl (reads_im _ _) rfl rfl ?_)
  refine aops_cons rfl rfl (AOp.callP Try.call56 rfl rfl rfl (by exact mayD d now x hs hll hlw) ?_)
  refine aops_cons rfl rfl (AOp.assign rfl rfl ?_)
  refine aops_nil ?_
  refine aw_ret ?_
  refine ⟨_, (res1 Try.results55 rfl), ?_⟩
  exact ⟨rfl, rfl⟩

theorem runL (d0 : Dk) (now : Int) (hs0 : srt d0.l) (hn0 : 0 ≤ now) (hn1 : now ≤ 1000000) (hl0 : d0.l.length ≤ 500) (hw0 : d0.w.length ≤ 400) : Pur Try.prog 18 [dk d0, .sc (.int .i64 now)] (runA (runOf d0 now) now) := by
  unfold dk
  refine acallsN Try.func18 rfl Try.ntmps18 rfl ?_
  refine aw_seq ?_
  refine aw_region ?_
  refine aops_cons rfl rfl (AOp.boxI rfl rfl rfl ?_)
  refine aops_cons rfl rfl (AOp.boxI rfl rfl rfl ?_)
  refine aops_cons rfl rfl (AOp.alloc Try.zeroValue30 (by kernel_rfl) rfl rfl ?_); intro b1
  refine aops_cons rfl rfl (AOp.assign rfl rfl ?_)
  refine aops_cons rfl rfl (AOp.assign rfl rfl ?_)
  refine aops_nil ?_
  refine aw_seq ?_
  refine aw_region ?_
  refine aops_cons rfl rfl (AOp.loadN Try.isAgg30 Try.sizeOf30 rfl rfl (reads_im _ _) rfl rfl ?_)
  refine aops_cons rfl rfl (AOp.load1 Try.isAgg3 rfl rfl (reads_im _ _) rfl ?_)
  refine aops_cons rfl rfl (AOp.callP Try.call53 rfl rfl rfl (by exact pruned d0 now (by first | omega | (simp <;> omega) | (simp at * <;> omega)) (by first | omega | (simp <;> omega) | (simp at * <;> omega))) ?_)
  refine aops_cons rfl rfl (AOp.storeB' Try.sizeOf30 rfl rfl rfl rfl rfl (pull_here _ _) rfl rfl ?_)
  refine aops_nil ?_
  refine aw_seq ?_
  refine aw_block ?_
  refine aw_loop (β := Nat × Dk × List Wt × Value) (S := (fun (z0 : Nat × Dk × List Wt × Value) => match z0 with | (n, d, acc, wl) => [(3, .im [.sc (.int .i64 now)]), (4, .sc (.pointer (some ⟨b1, 0, none⟩))), (5, .sc wl), (6, .sc (.slice none 0 0))])) (B := (fun (z0 : Nat × Dk × List Wt × Value) => match z0 with | (n, d, acc, wl) => [.box b1 30 d.e, .row wl 25 4 (acc.map Wt.e)])) (pre := (fun (z0 : Nat × Dk × List Wt × Value) => match z0 with | (n, d, acc, wl) => d.w.length ≤ n ∧ runD now n d acc = runOf d0 now ∧ srt d.l ∧ d.l.length + d.w.length ≤ 900 ∧ acc.length + d.w.length ≤ 400)) (μ := (fun (z0 : Nat × Dk × List Wt × Value) => match z0 with | (n, d, acc, wl) => n)) (d0.w.length, ⟨prn d0.l now, d0.w⟩, [], .slice none 0 0) ((wk_nil 25 4).trans ((wk_perm (List.Perm.swap _ _ _)).trans (wk_env (sube_cons rfl (sube_cons rfl (sube_cons rfl (sube_cons rfl (sube_nil _)))))))) ?_ ?_
  · exact ⟨Nat.le_refl _, rfl, srt_filter hs0, by have := prn_len d0.l now; dsimp only; omega, by simp; omega⟩
  · rintro ⟨n, d, acc, wl⟩ ⟨hn, hR, hs, hlen, hacc⟩
    change AW _ _ _ ([(3, .im [.sc (.int .i64 now)]), (4, .sc (.pointer (some ⟨b1, 0, none⟩))), (5, .sc wl), (6, .sc (.slice none 0 0))] : Env) ([.box b1 30 d.e, .row wl 25 4 (acc.map Wt.e)] : List Blk) _
    refine aw_block ?_
    refine aw_seq ?_
    refine aw_region ?_
    refine aops_cons rfl rfl (AOp.fieldB Try.underlying30 rfl Try.sizeOf28 (by decide) rfl rfl rfl ?_)
    refine aops_cons rfl rfl (AOp.load1 Try.isAgg28 rfl rfl (reads_box _ (.head _)) rfl ?_)
    refine aops_cons rfl rfl (AOp.makeFuncE rfl rfl ?_)
    refine aops_cons rfl rfl (AOp.callN (Af := _) Try.call54 rfl rfl rfl (show List.Perm _ ([_] ++ _) from (pull_here _ _)) (by exact indexW d.w (by first | omega | (simp <;> omega) | (simp at * <;> omega)) (free d now) 55 [.sc (.pointer (some ⟨b1, 0, none⟩)), .im [.sc (.int .i64 now)]] [.box b1 30 d.e] Try.call55 (fun x => runIs d now x b1 hs (by first | omega | (simp <;> omega) | (simp at * <;> omega)) (by first | omega | (simp <;> omega) | (simp at * <;> omega)))) (fun r' A'' hr => ?_))
    obtain ⟨rfl, rfl⟩ := hr
    refine aops_cons rfl rfl (AOp.assign rfl rfl ?_)
    refine aops_nil ?_
    refine aw_seq ?_
    refine aw_seq ?_
    refine aw_region ?_
    refine aops_cons rfl rfl (AOp.move rfl rfl ?_)
    refine aops_cons rfl rfl (AOp.lss rfl rfl rfl ?_)
    refine aops_nil ?_
    refine aw_cond _ rfl (fun h1 => ?_) (fun h1 => ?_)
    focus
      have h1_ := h1
      try simp only [List.length_map, List.length_cons, List.length_nil, nrm] at h1
      all_goals try (exfalso; first | (simp at h1_; done) | omega)
      all_goals
        refine aw_exit ?_
        refine aw_seq ?_
        refine aw_seq ?_
        have hst : runD now n d acc = (d, acc) := runD_stop n acc (by rw [List.find?_eq_none]; intro x hx; simp [idg_neg (p := free d now) (l := d.w) (by omega) x hx])
        rw [hst] at hR
        refine aw_region ?_
        refine aops_cons rfl rfl (AOp.fieldB Try.underlying30 rfl Try.sizeOf28 (by decide) rfl rfl rfl ?_)
        refine aops_cons rfl rfl (AOp.load1 Try.isAgg28 rfl rfl (reads_box _ (.head _)) rfl ?_)
        refine aops_cons rfl rfl (AOp.lenS (by first | exact List.length_map _ | rfl) Try.underlying28 rfl rfl ?_)
        refine aops_cons rfl rfl (AOp.move rfl rfl ?_)
        refine aops_nil ?_
        refine aw_block ?_
        refine aw_loop (β := Nat × Value) (S := (fun (z0 : Nat × Value) => match z0 with | (i, w2) => [(3, .im [.sc (.int .i64 now)]), (4, .sc (.pointer (some ⟨b1, 0, none⟩))), (5, .sc wl), (6, .sc w2), (37, ws d.w), (38, .sc (.int .i64 (d.w.length : Nat))), (39, .sc (.int .i64 (i : Int)))])) (B := (fun (z0 : Nat × Value) => match z0 with | (i, w2) => [.row w2 41 2 ((callsF d now (d.w.take i) []).map pe), .box b1 30 d.e, .row wl 25 4 (acc.map Wt.e)])) (pre := (fun (z0 : Nat × Value) => match z0 with | (i, w2) => i ≤ d.w.length ∧ (callsF d now (d.w.take i) []).length ≤ i * 1000)) (μ := (fun (z0 : Nat × Value) => match z0 with | (i, w2) => d.w.length - i)) (0, .slice none 0 0) ((wk_nil 41 2).trans (wk_env (sube_cons rfl (sube_cons rfl (sube_cons rfl (sube_cons rfl (sube_cons rfl (sube_cons rfl (sube_cons rfl (sube_nil _)))))))))) ?_ ?_
        · exact ⟨Nat.zero_le _, Nat.le_refl _⟩
        · rintro ⟨i, w2⟩ ⟨hi, hcl⟩
          change AW _ _ _ ([(3, .im [.sc (.int .i64 now)]), (4, .sc (.pointer (some ⟨b1, 0, none⟩))), (5, .sc wl), (6, .sc w2), (37, ws d.w), (38, .sc (.int .i64 (d.w.length : Nat))), (39, .sc (.int .i64 (i : Int)))] : Env) ([.row w2 41 2 ((callsF d now (d.w.take i) []).map pe), .box b1 30 d.e, .row wl 25 4 (acc.map Wt.e)] : List Blk) _
          refine aw_seq ?_
          refine aw_region ?_
          refine aops_cons rfl rfl (AOp.lss rfl rfl rfl ?_)
          refine aops_nil ?_
          refine aw_seq ?_
          refine aw_cond _ rfl (fun h2 => ?_) (fun h2 => ?_)
          focus
            have h2_ := h2
            try simp only [List.length_map, List.length_cons, List.length_nil, nrm] at h2
            all_goals try (exfalso; first | (simp at h2_; done) | omega)
            all_goals
              refine aw_skip ?_
              skip
          rotate_right
          focus
            have h2_ := h2
            try simp only [List.length_map, List.length_cons, List.length_nil, nrm] at h2
            all_goals try (exfalso; first | (simp at h2_; done) | omega)
            all_goals
              refine aw_exit ?_
              refine aw_seq ?_
              refine aw_region ?_
              refine aops_cons rfl rfl (AOp.loadN Try.isAgg30 Try.sizeOf30 rfl rfl (reads_box _ (.tail _ (.head _))) rfl rfl ?_)
              refine aops_cons rfl rfl (AOp.move rfl rfl ?_)
              refine aops_cons rfl rfl (AOp.move rfl rfl ?_)
              refine aops_cons rfl rfl (AOp.storeB' Try.sizeOf30 rfl rfl rfl rfl rfl (pull_there (pull_here _ _)) rfl rfl ?_)
              refine aops_cons rfl rfl (AOp.assign rfl rfl ?_)
              refine aops_cons rfl rfl (AOp.assign rfl rfl ?_)
              refine aops_nil ?_
              refine aw_weak ((wk_frz (pull_there (pull_here _ _)) (.keep _ (.keep _ .nil)) (subz_cons (s := 4) rfl (fz_id _ _ _) (subz_cons (s := 5) rfl (fz_id _ _ _) (subz_cons (s := 6) rfl (fz_row _ _) (subz_nil _ _ _))))).trans (wk_frz (pull_there (pull_here _ _)) (.keep _ .nil) (subz_cons (s := 4) rfl (fz_id _ _ _) (subz_cons (s := 5) rfl (fz_row _ _) (subz_cons (s := 6) rfl (fz_id _ _ _) (subz_nil _ _ _)))))) ?_
              refine aw_weak (wk_imm (pull_here _ _) (subf_new (s := 4) rfl (subf_cons (s := 5) rfl (subf_cons (s := 6) rfl (subf_nil _ _ _))))) ?_
              refine aw_weak (wk_drop (List.nil_sublist _)) ?_
              refine aw_ret ?_
              refine ⟨_, (resV3 Try.results18 (RV.cellN _ _ _ _ _ _ Try.isAgg30 Try.sizeOf30 rfl (reads_im _ _) rfl rfl) (RV.tmp _ _ rfl) (RV.tmp _ _ rfl)), ?_⟩
              have hi' : i = d.w.length := by omega
              subst hi'
              rw [List.take_of_length_le (Nat.le_refl _)]
              rw [← hR]
              exact ⟨rfl, rfl⟩
          all_goals
            refine aw_seq ?_
            refine aw_block ?_
            refine aw_seq ?_
            refine aw_region ?_
            refine aops_cons rfl rfl (AOp.indexLN Try.underlying28 Try.sizeOf25 rfl rfl rfl (by first | omega | (simp <;> omega) | (simp at * <;> omega)) (fun _ => rfl) ?_)
            refine aops_cons rfl rfl (AOp.loadN Try.isAgg25 Try.sizeOf25 rfl rfl (reads_im _ _) rfl rfl ?_)
            refine aops_cons rfl rfl (AOp.alloc Try.zeroValue25 (by kernel_rfl) rfl rfl ?_); intro b2
            refine aops_cons rfl rfl (AOp.storeB' Try.sizeOf25 rfl rfl rfl rfl rfl (pull_here _ _) rfl rfl ?_)
            refine aops_nil ?_
            refine aw_seq ?_
            refine aw_region ?_
            refine aops_cons rfl rfl (AOp.loadN Try.isAgg30 Try.sizeOf30 rfl rfl (reads_box _ (.tail _ (.tail _ (.head _)))) rfl rfl ?_)
            refine aops_cons rfl rfl (AOp.load1 Try.isAgg3 rfl rfl (reads_im _ _) rfl ?_)
            refine aops_cons rfl rfl (AOp.loadN Try.isAgg25 Try.sizeOf25 rfl rfl (reads_box _ (.head _)) rfl rfl ?_)
            refine aops_cons rfl rfl (AOp.callP Try.call58 rfl rfl rfl (by exact clashD d now d.w[i] hs (by first | omega | (simp <;> omega) | (simp at * <;> omega)) (by first | omega | (simp <;> omega) | (simp at * <;> omega))) ?_)
            refine aops_cons rfl rfl (AOp.lenS (by first | exact List.length_map _ | rfl) Try.underlying42 rfl rfl ?_)
            refine aops_cons rfl rfl (AOp.move rfl rfl ?_)
            refine aops_nil ?_
            refine aw_block ?_
            refine aw_loop (β := Nat × Value) (S := (fun (z0 : Nat × Value) => match z0 with | (j, w3) => [(3, .im [.sc (.int .i64 now)]), (4, .sc (.pointer (some ⟨b1, 0, none⟩))), (5, .sc wl), (6, .sc w3), (10, .sc (.pointer (some ⟨b2, 0, none⟩))), (37, ws d.w), (38, .sc (.int .i64 (d.w.length : Nat))), (39, .sc (.int .i64 (i : Int))), (46, ints (cls d.l now d.w[i].c d.w[i].f d.w[i].m)), (47, .sc (.int .i64 ((cls d.l now d.w[i].c d.w[i].f d.w[i].m).length : Nat))), (48, .sc (.int .i64 (j : Int)))])) (B := (fun (z0 : Nat × Value) => match z0 with | (j, w3) => [.row w3 41 2 ((addC d.w[i].f ((cls d.l now d.w[i].c d.w[i].f d.w[i].m).take j) (callsF d now (d.w.take i) [])).map pe), .box b2 25 (Wt.e d.w[i]), .box b1 30 d.e, .row wl 25 4 (acc.map Wt.e)])) (pre := (fun (z0 : Nat × Value) => match z0 with | (j, w3) => j ≤ (cls d.l now d.w[i].c d.w[i].f d.w[i].m).length)) (μ := (fun (z0 : Nat × Value) => match z0 with | (j, w3) => (cls d.l now d.w[i].c d.w[i].f d.w[i].m).length - j)) (0, _) ((wk_perm (List.Perm.swap _ _ _)).trans (wk_env (sube_cons rfl (sube_cons rfl (sube_cons rfl (sube_cons rfl (sube_cons rfl (sube_cons rfl (sube_cons rfl (sube_cons rfl (sube_cons rfl (sube_cons rfl (sube_cons rfl (sube_nil _)))))))))))))) ?_ ?_
            · exact Nat.zero_le _
            · rintro ⟨j, w3⟩ hj
              change AW _ _ _ ([(3, .im [.sc (.int .i64 now)]), (4, .sc (.pointer (some ⟨b1, 0, none⟩))), (5, .sc wl), (6, .sc w3), (10, .sc (.pointer (some ⟨b2, 0, none⟩))), (37, ws d.w), (38, .sc (.int .i64 (d.w.length : Nat))), (39, .sc (.int .i64 (i : Int))), (46, ints (cls d.l now d.w[i].c d.w[i].f d.w[i].m)), (47, .sc (.int .i64 ((cls d.l now d.w[i].c d.w[i].f d.w[i].m).length : Nat))), (48, .sc (.int .i64 (j : Int)))] : Env) ([.row w3 41 2 ((addC d.w[i].f ((cls d.l now d.w[i].c d.w[i].f d.w[i].m).take j) (callsF d now (d.w.take i) [])).map pe), .box b2 25 (Wt.e d.w[i]), .box b1 30 d.e, .row wl 25 4 (acc.map Wt.e)] : List Blk) _
              replace hj : j ≤ (cls d.l now d.w[i].c d.w[i].f d.w[i].m).length := hj
              have hal := addC_len d.w[i].f ((cls d.l now d.w[i].c d.w[i].f d.w[i].m).take j) (callsF d now (d.w.take i) [])
              rw [List.length_take] at hal
              have hcls := len_cls d.l now d.w[i].c d.w[i].f d.w[i].m
              refine aw_seq ?_
              refine aw_region ?_
              refine aops_cons rfl rfl (AOp.lss rfl rfl rfl ?_)
              refine aops_nil ?_
              refine aw_seq ?_
              refine aw_cond _ rfl (fun h3 => ?_) (fun h3 => ?_)
              focus
                have h3_ := h3
                try simp only [List.length_map, List.length_cons, List.length_nil, nrm] at h3
                all_goals try (exfalso; first | (simp at h3_; done) | omega)
                all_goals
                  refine aw_skip ?_
                  skip
              rotate_right
              focus
                have h3_ := h3
                try simp only [List.length_map, List.length_cons, List.length_nil, nrm] at h3
                all_goals try (exfalso; first | (simp at h3_; done) | omega)
                all_goals
                  refine aw_exit ?_
                  refine aw_region ?_
                  refine aops_cons rfl rfl (AOp.addE rfl rfl rfl (by first | omega | (simp <;> omega) | (simp at * <;> omega)) (by first | omega | (simp <;> omega) | (simp at * <;> omega)) ?_)
                  refine aops_cons rfl rfl (AOp.move rfl rfl ?_)
                  refine aops_nil ?_
                  have hj' : j = (cls d.l now d.w[i].c d.w[i].f d.w[i].m).length := by omega
                  refine ⟨(i + 1, _), ⟨by omega, ?_⟩, ?_, (wk_drop (A' := [.row w3 41 2 ((addC d.w[i].f ((cls d.l now d.w[i].c d.w[i].f d.w[i].m).take j) (callsF d now (d.w.take i) [])).map pe), .box b1 30 d.e, .row wl 25 4 (acc.map Wt.e)]) ?_).trans ((wk_roweq (A := [.box b1 30 d.e, .row wl 25 4 (acc.map Wt.e)]) (?_)).trans (wk_env (sube_cons rfl (sube_cons rfl (sube_cons rfl (sube_cons rfl (sube_cons rfl (sube_cons rfl (sube_cons rfl (sube_nil _))))))))))⟩
                  rotate_right
                  · rw [hj', List.take_of_length_le (Nat.le_refl _), callsF_step (by omega)]
                  · rw [callsF_step (by omega)]; have := addC_len d.w[i].f (cls d.l now d.w[i].c d.w[i].f d.w[i].m) (callsF d now (d.w.take i) []); have := len_cls d.l now d.w[i].c d.w[i].f d.w[i].m; omega
                  · dsimp only; omega
                  · (focus ((repeat (first | exact List.Sublist.slnil | apply List.Sublist.cons_cons | apply List.Sublist.cons)); done))
              all_goals
                refine aw_seq ?_
                refine aw_block ?_
                refine aw_seq ?_
                refine aw_region ?_
                refine aops_cons rfl rfl (AOp.indexLN Try.underlying42 Try.sizeOf3 rfl rfl rfl (by first | omega | (simp <;> omega) | (simp at * <;> omega)) (fun _ => rfl) ?_)
                refine aops_cons rfl rfl (AOp.load1 Try.isAgg3 rfl rfl (reads_im _ _) rfl ?_)
                refine aops_cons rfl rfl (AOp.assign rfl rfl ?_)
                refine aops_nil ?_
                refine aw_seq ?_
                refine aw_region ?_
                refine aops_cons rfl rfl (AOp.fieldB Try.underlying25 rfl Try.sizeOf3 (by decide) rfl rfl rfl ?_)
                refine aops_cons rfl rfl (AOp.load1 Try.isAgg3 rfl rfl (reads_box _ (.tail _ (.head _))) rfl ?_)
                refine aops_cons rfl rfl (AOp.move rfl rfl ?_)
                refine aops_cons rfl rfl (AOp.buildA Try.zeroValue41 (by kernel_rfl) Try.underlying41 Try.sizeOf3 rfl rfl rfl rfl ?_)
                refine aops_cons rfl rfl (AOp.alloc Try.zeroValue41 (by kernel_rfl) rfl rfl ?_); intro b3
                refine aops_cons rfl rfl (AOp.storeB' Try.sizeOf41 rfl rfl rfl rfl rfl (pull_here _ _) rfl rfl ?_)
                refine aops_nil ?_
                refine aw_seq ?_
                refine aw_region ?_
                refine aops_cons rfl rfl (AOp.move rfl rfl ?_)
                refine aops_cons rfl rfl (AOp.loadN Try.isAgg41 Try.sizeOf41 rfl rfl (reads_box _ (.head _)) rfl rfl ?_)
                refine aops_cons rfl rfl (AOp.callN (Af := _) Try.call59 rfl rfl rfl (show List.Perm _ ([_] ++ _) from (pull_there (pull_here _ _))) (by exact hasR (addC d.w[i].f ((cls d.l now d.w[i].c d.w[i].f d.w[i].m).take j) (callsF d now (d.w.take i) [])) (d.w[i].f, (cls d.l now d.w[i].c d.w[i].f d.w[i].m)[j]) w3 (by first | omega | (simp <;> omega) | (simp at * <;> omega))) (fun r' A'' hr => ?_))
                obtain ⟨rfl, rfl⟩ := hr
                refine aops_cons rfl rfl (AOp.not rfl rfl ?_)
                refine aops_nil ?_
                refine aw_cond _ rfl (fun h4 => ?_) (fun h4 => ?_)
                focus
                  have h4_ := h4
                  try simp only [List.length_map, List.length_cons, List.length_nil, nrm] at h4
                  all_goals try (exfalso; first | (simp at h4_; done) | omega)
                  all_goals
                    refine aw_region ?_
                    refine aops_cons rfl rfl (AOp.move rfl rfl ?_)
                    refine aops_cons rfl rfl (AOp.loadN Try.isAgg41 Try.sizeOf41 rfl rfl (reads_box _ (.tail _ (.head _))) rfl rfl ?_)
                    refine aops_cons rfl rfl (AOp.buildS' Try.underlying37 Try.sizeOf41 Try.zeroValue41 rfl rfl rfl rfl rfl rfl rfl rfl rfl rfl rfl ?_)
                    (refine aops_cons rfl rfl (AOp.append' (bytes := 16) Try.zeroValue41 Try.sizeOf41 Try.underlying37 (by kernel_rfl) rfl rfl rfl (pull_here _ _) rfl (src_sl Try.underlying37 (all_len rfl)) (by first | omega | (simp <;> omega) | (simp at * <;> omega)) (by decide) ?_); intro b4)
                    refine aops_cons rfl rfl (AOp.assign rfl rfl ?_)
                    refine aops_nil ?_
                    skip
                rotate_right
                focus
                  have h4_ := h4
                  try simp only [List.length_map, List.length_cons, List.length_nil, nrm] at h4
                  all_goals try (exfalso; first | (simp at h4_; done) | omega)
                  all_goals
                    refine aw_skip ?_
                    skip
                all_goals
                  refine aw_region ?_
                  refine aops_cons rfl rfl (AOp.addE rfl rfl rfl (by first | omega | (simp <;> omega) | (simp at * <;> omega)) (by first | omega | (simp <;> omega) | (simp at * <;> omega)) ?_)
                  refine aops_cons rfl rfl (AOp.move rfl rfl ?_)
                  refine aops_nil ?_
                  first
                  | (refine ⟨(j + 1, _), ?_, ?_, (wk_drop ?_).trans ((wk_roweq (addC_new (by omega) (by assumption))).trans (wk_env (sube_cons rfl (sube_cons rfl (sube_cons rfl (sube_cons rfl (sube_cons rfl (sube_cons rfl (sube_cons rfl (sube_cons rfl (sube_cons rfl (sube_cons rfl (sube_cons rfl (sube_nil _))))))))))))))⟩; (dsimp only; omega); (dsimp only; omega); (focus ((repeat (first | exact List.Sublist.slnil | apply List.Sublist.cons_cons | apply List.Sublist.cons)); done)); skip)
                  | (refine ⟨(j + 1, _), ?_, ?_, (wk_drop ?_).trans ((wk_roweq (addC_in (by omega) (by assumption))).trans (wk_env (sube_cons rfl (sube_cons rfl (sube_cons rfl (sube_cons rfl (sube_cons rfl (sube_cons rfl (sube_cons rfl (sube_cons rfl (sube_cons rfl (sube_cons rfl (sube_cons rfl (sube_nil _))))))))))))))⟩; (dsimp only; omega); (dsimp only; omega); (focus ((repeat (first | exact List.Sublist.slnil | apply List.Sublist.cons_cons | apply List.Sublist.cons)); done)); skip)
    rotate_right
    focus
      have h1_ := h1
      try simp only [List.length_map, List.length_cons, List.length_nil, nrm] at h1
      all_goals try (exfalso; first | (simp at h1_; done) | omega)
      all_goals
        refine aw_skip ?_
        skip
    all_goals
      refine aw_seq ?_
      obtain ⟨hat, hpa⟩ := idg_nat (p := free d now) (l := d.w) (by omega)
      have hfnd := idg_find (p := free d now) (l := d.w) (by omega) hat
      refine aw_region ?_
      refine aops_cons rfl rfl (AOp.fieldB Try.underlying30 rfl Try.sizeOf28 (by decide) rfl rfl rfl ?_)
      refine aops_cons rfl rfl (AOp.load1 Try.isAgg28 rfl rfl (reads_box _ (.head _)) rfl ?_)
      refine aops_cons rfl rfl (AOp.move rfl rfl ?_)
      refine aops_cons rfl rfl (AOp.indexLI Try.underlying28 Try.sizeOf25 rfl rfl rfl (by first | omega | (simp <;> omega) | (simp at * <;> omega)) (by first | omega | (simp <;> omega) | (simp at * <;> omega)) (fun _ => rfl) ?_)
      refine aops_cons rfl rfl (AOp.loadN Try.isAgg25 Try.sizeOf25 rfl rfl (reads_im _ _) rfl rfl ?_)
      refine aops_cons rfl rfl (AOp.alloc Try.zeroValue25 (by kernel_rfl) rfl rfl ?_); intro b5
      refine aops_cons rfl rfl (AOp.storeB' Try.sizeOf25 rfl rfl rfl rfl rfl (pull_here _ _) rfl rfl ?_)
      refine aops_nil ?_
      refine aw_draw 7 [0, 0, 0, 0, 0, 0, 0] (by kernel_rfl) (by kernel_rfl) ?_
      refine psq_cons _ rfl (core0 (AOp.loadN Try.isAgg30 Try.sizeOf30 rfl rfl (reads_box _ (.tail _ (.head _))) rfl rfl ⟨rfl, rfl⟩)) ?_
      refine psq_cons _ rfl (core0 (AOp.load1 Try.isAgg3 rfl rfl (reads_im _ _) rfl ⟨rfl, rfl⟩)) ?_
      refine psq_cons _ rfl (core0 (AOp.loadN Try.isAgg25 Try.sizeOf25 rfl rfl (reads_box _ (.head _)) rfl rfl ⟨rfl, rfl⟩)) ?_
      refine psq_cons _ rfl (core0 (AOp.callP Try.call57 rfl rfl rfl (by exact letsD d now d.w[(idg (free d now) d.w).toNat] hs hn0 hn1 (by first | omega | (simp <;> omega) | (simp at * <;> omega)) (by first | omega | (simp <;> omega) | (simp at * <;> omega))) ⟨rfl, rfl⟩)) ?_
      refine psq_cons _ rfl (core0 (AOp.move rfl rfl ⟨rfl, rfl⟩)) ?_
      refine psq_cons _ rfl (core0 (AOp.loadN Try.isAgg25 Try.sizeOf25 rfl rfl (reads_box _ (.head _)) rfl rfl ⟨rfl, rfl⟩)) ?_
      refine psq_cons _ rfl (core0 (AOp.buildS' Try.underlying28 Try.sizeOf25 Try.zeroValue25 rfl rfl rfl rfl rfl rfl rfl rfl rfl rfl rfl ⟨rfl, rfl⟩)) ?_
      refine psq_nil ?_
      (refine aops_cons rfl rfl (AOp.append' (bytes := 32) Try.zeroValue25 Try.sizeOf25 Try.underlying28 (by kernel_rfl) rfl rfl rfl (pull_there (pull_there (pull_here _ _))) rfl (src_sl Try.underlying28 (all_len rfl)) (by first | omega | (simp <;> omega) | (simp at * <;> omega)) (by decide) ?_); intro b6)
      refine aops_cons rfl rfl (AOp.storeB' Try.sizeOf30 rfl rfl rfl rfl rfl (pull_there (pull_there (pull_here _ _))) rfl rfl ?_)
      refine aops_cons rfl rfl (AOp.assign rfl rfl ?_)
      refine aops_nil ?_
      obtain ⟨m, rfl, e1, e2, e3⟩ := runD_go acc hn hfnd
      have e4 := lets_len d now d.w[(idg (free d now) d.w).toNat]
      refine ⟨(m, lets d now d.w[(idg (free d now) d.w).toNat], acc ++ [d.w[(idg (free d now) d.w).toNat]], _), ⟨e1, by rw [← e3]; exact hR, srt_gr2 hs, by omega, by simp; omega⟩, by dsimp only; omega, ((wk_drop (A' := [.box b1 30 (lets d now d.w[(idg (free d now) d.w).toNat]).e, .row _ 25 4 (acc.map Wt.e ++ [Wt.e d.w[(idg (free d now) d.w).toNat]])]) ?_).trans ((wk_perm (List.Perm.swap _ _ _)).trans ((wk_roweq (by rw [List.map_append]; rfl)).trans ((wk_perm (List.Perm.swap _ _ _)).trans (wk_env (sube_cons rfl (sube_cons rfl (sube_cons rfl (sube_cons rfl (sube_nil _))))))))))⟩
      (focus ((repeat (first | exact List.Sublist.slnil | apply List.Sublist.cons_cons | apply List.Sublist.cons)); done))

end Go.Proofs.Ytdacnebhlgibhaa
