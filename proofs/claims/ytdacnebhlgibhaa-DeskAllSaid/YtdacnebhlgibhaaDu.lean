/- Own text: what the laws' arguments are. -/
import Derived.Test.YtdacnebhlgibhaaDj
import Derived.Test.YtdacnebhlgibhaaAwM
set_option linter.unusedVariables false
set_option linter.unusedSimpArgs false
set_option linter.all false
set_option maxRecDepth 100000
set_option maxHeartbeats 2000000
namespace Go.Proofs.Ytdacnebhlgibhaa
open Go Go.Aw
def q4s (l : List Q) : AV := .sl (l.map Q.e)

theorem wf_u8 {n : Int} (h : (Lit.int .u8 n).wf = true) : ∃ b : UInt8, n = (b.toNat : Int) := by
  have h1 : 0 ≤ n ∧ n ≤ 255 := by
    simp [Lit.wf, IntKind.min, IntKind.max, IntKind.bits, IntKind.signed] at h
    omega
  refine ⟨UInt8.ofNat n.toNat, ?_⟩
  rw [UInt8.toNat_ofNat']
  omega
theorem rel_i8 (H : Hp) {n : Int} (h : (Lit.int .u8 n).wf = true) : ∃ b : UInt8, Rel H (i8 b) (.int .u8 n) := by
  obtain ⟨b, rfl⟩ := wf_u8 h
  exact ⟨b, .sc _⟩
section
variable {W : World}
theorem shp_u8 : Shp Try.prog W 5 (fun l => ∃ b : UInt8, l = be b) := (shp_int Try.underlying5).mono (fun l ⟨n, hw, e⟩ => by obtain ⟨b, rfl⟩ := wf_u8 hw; exact ⟨b, e⟩)
theorem shp_bytes : Shp Try.prog W 22 (fun l => ∃ b : List UInt8, l = [bytes b]) := (shp_slice (sz := 1) Try.underlying22 (by kernel_rfl) (by decide) shp_u8).mono (fun l ⟨es, _, h, e⟩ => by obtain ⟨w, rfl⟩ := map_of (e := be) h; exact ⟨w, e⟩)
theorem shp_i64 : Shp Try.prog W 3 (fun l => ∃ n : Int, l = [.sc (.int .i64 n)]) := (shp_int Try.underlying3).mono (fun l ⟨n, _, e⟩ => ⟨n, e⟩)
theorem shp_wait : Shp Try.prog W 25 (fun l => ∃ x : Wt, l = x.e) :=
  (shp_struct Try.underlying25 (by kernel_rfl) (.cons _ _ _ 1 _ _ rfl (by kernel_rfl) shp_i64 (.cons _ _ _ 1 _ _ rfl (by kernel_rfl) shp_i64 (.cons _ _ _ 1 _ _ rfl (by kernel_rfl) shp_i64 (.cons _ _ _ 1 _ _ rfl (by kernel_rfl) shp_i64 (.nil _)))))).mono
    (fun l ⟨ls, ⟨a, _, ⟨c, hc⟩, ⟨b, _, ⟨f, hf⟩, ⟨d, _, ⟨m, hm⟩, ⟨g, _, ⟨u, hu⟩, e4, e3⟩, e2⟩, e1⟩, e0⟩, e⟩ => by subst e e0 e1 e2 e3 e4 hc hf hm hu; exact ⟨⟨c, f, m, u⟩, rfl⟩)
theorem shp_q : Shp Try.prog W 35 (fun l => ∃ q : Q, l = q.e) := (shp_array (n := 4) (sz := 1) Try.underlying35 (by kernel_rfl) (by kernel_rfl) shp_u8).mono (fun l ⟨ls, hl, h, e⟩ => by
  match ls, hl with
  | [x, y, z, t], _ =>
    obtain ⟨a, rfl⟩ := h x (by simp)
    obtain ⟨b, rfl⟩ := h y (by simp)
    obtain ⟨c, rfl⟩ := h z (by simp)
    obtain ⟨d, rfl⟩ := h t (by simp)
    subst e
    exact ⟨⟨a, b, c, d⟩, rfl⟩)
theorem shp_q4s : Shp Try.prog W 23 (fun l => ∃ w : List Q, l = [q4s w]) := (shp_slice (sz := 4) Try.underlying23 (by kernel_rfl) (by decide) shp_q).mono (fun l ⟨es, _, h, e⟩ => by obtain ⟨w, rfl⟩ := map_of (e := Q.e) h; exact ⟨w, e⟩)
theorem shp_q3 : Shp Try.prog W 51 (fun l => ∃ q : Q3, l = q.e) := (shp_array (n := 3) (sz := 1) Try.underlying51 (by kernel_rfl) (by kernel_rfl) shp_u8).mono (fun l ⟨ls, hl, h, e⟩ => by
  match ls, hl with
  | [x, y, z], _ =>
    obtain ⟨a, rfl⟩ := h x (by simp)
    obtain ⟨b, rfl⟩ := h y (by simp)
    obtain ⟨c, rfl⟩ := h z (by simp)
    subst e
    exact ⟨⟨a, b, c⟩, rfl⟩)
theorem shp_q3s : Shp Try.prog W 49 (fun l => ∃ w : List Q3, l = [q3s w]) := (shp_slice (sz := 3) Try.underlying49 (by kernel_rfl) (by decide) shp_q3).mono (fun l ⟨es, _, h, e⟩ => by obtain ⟨w, rfl⟩ := map_of (e := Q3.e) h; exact ⟨w, e⟩)
end

end Go.Proofs.Ytdacnebhlgibhaa
