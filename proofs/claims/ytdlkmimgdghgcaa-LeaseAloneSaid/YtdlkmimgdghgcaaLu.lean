/- Own text: what the laws' arguments are. -/
import Derived.Test.YtdlkmimgdghgcaaLr
import Derived.Test.YtdlkmimgdghgcaaAwM
import Derived.Test.YtdlkmimgdghgcaaLn
set_option linter.unusedVariables false
set_option linter.unusedSimpArgs false
set_option linter.all false
set_option maxRecDepth 100000
set_option maxHeartbeats 2000000
namespace Go.Proofs.Ytdlkmimgdghgcaa
open Go Go.Aw

section
variable {W : World}
theorem shp_u8 : Shp Try.prog W 5 (fun l => ∃ b : UInt8, l = be b) := (shp_int Try.underlying5).mono (fun l ⟨n, hw, e⟩ => by obtain ⟨b, rfl⟩ := wf_u8 hw; exact ⟨b, e⟩)
theorem shp_bytes : Shp Try.prog W 22 (fun l => ∃ b : List UInt8, l = [bytes b]) := (shp_slice (sz := 1) Try.underlying22 (by kernel_rfl) (by decide) shp_u8).mono (fun l ⟨es, _, h, e⟩ => by obtain ⟨w, rfl⟩ := map_of (e := be) h; exact ⟨w, e⟩)
theorem shp_i64 : Shp Try.prog W 3 (fun l => ∃ n : Int, l = [.sc (.int .i64 n)]) := (shp_int Try.underlying3).mono (fun l ⟨n, _, e⟩ => ⟨n, e⟩)
theorem shp_lease : Shp Try.prog W 58 (fun l => ∃ x : L, l = x.e) :=
  (shp_struct Try.underlying58 (by kernel_rfl) (.cons _ _ _ 1 _ _ rfl (by kernel_rfl) shp_i64 (.cons _ _ _ 1 _ _ rfl (by kernel_rfl) shp_i64 (.cons _ _ _ 1 _ _ rfl (by kernel_rfl) shp_i64 (.cons _ _ _ 1 _ _ rfl (by kernel_rfl) shp_i64 (.nil _)))))).mono
    (fun l ⟨ls, ⟨a, _, ⟨c, hc⟩, ⟨b, _, ⟨f, hf⟩, ⟨d, _, ⟨m, hm⟩, ⟨g, _, ⟨u, hu⟩, e4, e3⟩, e2⟩, e1⟩, e0⟩, e⟩ => by subst e e0 e1 e2 e3 e4 hc hf hm hu; exact ⟨⟨c, f, m, u⟩, rfl⟩)
theorem shp_leases : Shp Try.prog W 36 (fun l => ∃ w : List L, l = [ls w]) := (shp_slice (sz := 4) Try.underlying36 (by kernel_rfl) (by decide) shp_lease).mono (fun l ⟨es, _, h, e⟩ => by obtain ⟨w, rfl⟩ := map_of (e := L.e) h; exact ⟨w, e⟩)
theorem shp_q : Shp Try.prog W 70 (fun l => ∃ q : Q, l = q.e) := (shp_array (n := 4) (sz := 1) Try.underlying70 (by kernel_rfl) (by kernel_rfl) shp_u8).mono (fun l ⟨ls, hl, h, e⟩ => by
  match ls, hl with
  | [x, y, z, t], _ =>
    obtain ⟨a, rfl⟩ := h x (by simp)
    obtain ⟨b, rfl⟩ := h y (by simp)
    obtain ⟨c, rfl⟩ := h z (by simp)
    obtain ⟨d, rfl⟩ := h t (by simp)
    subst e
    exact ⟨⟨a, b, c, d⟩, rfl⟩)
theorem shp_qs : Shp Try.prog W 69 (fun l => ∃ w : List Q, l = [qs w]) := (shp_slice (sz := 4) Try.underlying69 (by kernel_rfl) (by decide) shp_q).mono (fun l ⟨es, _, h, e⟩ => by obtain ⟨w, rfl⟩ := map_of (e := Q.e) h; exact ⟨w, e⟩)
end

end Go.Proofs.Ytdlkmimgdghgcaa
