/- Own text: what a law's arguments are. -/
import Derived.Test.YtdlkmimgdghgcaaLm
import Derived.Test.YtdlkmimgdghgcaaAwL
set_option linter.unusedVariables false
set_option linter.unusedSimpArgs false
set_option linter.all false
set_option maxRecDepth 100000
set_option maxHeartbeats 2000000
namespace Go.Proofs.Ytdlkmimgdghgcaa
open Go Go.Aw

/-- A slice of numbers that came in. -/
def IsRow (k : IntKind) (w : World) (a : Option Addr) (len cap : Nat) (zs : List Int) : Prop :=
  (a = none ∧ len = 0 ∧ cap = 0 ∧ zs = []) ∨
  ∃ x, a = some x ∧ len ≤ cap ∧ cap ≤ maxLen ∧ zs.length = cap ∧ (∀ i, i < zs.length → w.cell? (x.add i) = some (.int k (zs.getD i 0))) ∧ ∀ n ∈ zs, (Lit.int k n).wf = true
theorem wf_u8 {n : Int} (h : (Lit.int .u8 n).wf = true) : ∃ b : UInt8, n = (b.toNat : Int) := by
  have h1 : 0 ≤ n ∧ n ≤ 255 := by
    simp [Lit.wf, IntKind.min, IntKind.max, IntKind.bits, IntKind.signed] at h
    omega
  refine ⟨UInt8.ofNat n.toNat, ?_⟩
  rw [UInt8.toNat_ofNat']
  omega
theorem rel_i8 (H : Hp) {n : Int} (h : (Lit.int .u8 n).wf = true) : ∃ b : UInt8, Rel H (i8 b) (.int .u8 n) := by
  obtain ⟨b, rfl⟩ := wf_u8 h
  exact ⟨b, .sc _⟩
theorem rel_bytes {w : World} {a : Option Addr} {len cap : Nat} {zs : List Int} (h : IsRow .u8 w a len cap zs) : ∃ l : List UInt8, Rel (whole w) (bytes l) (.slice a len cap) := by
  rcases h with ⟨rfl, rfl, rfl, rfl⟩ | ⟨x, rfl, hl, hm, hz, hce, hwf⟩
  · exact ⟨[], .sl [] 0 none 0 (fun _ _ => undef) (Nat.le_refl _) (fun h => by simp at h) (fun k e h => by simp at h) (fun k j h => by simp at h) (fun k e j x h => by simp at h)⟩
  · have hw : ∀ i, i < len → ∃ b : UInt8, zs.getD i 0 = (b.toNat : Int) := fun i hi => by
      have hiz : i < zs.length := by omega
      refine wf_u8 (hwf _ ?_)
      rw [List.getD_eq_getElem?_getD, List.getElem?_eq_getElem hiz]
      exact List.getElem_mem hiz
    have hch : ∃ f : Nat → UInt8, ∀ i, i < len → zs.getD i 0 = ((f i).toNat : Int) := by
      refine ⟨fun i => if h : i < len then Classical.choose (hw i h) else 0, fun i hi => ?_⟩
      simp only [hi, dif_pos]
      exact Classical.choose_spec (hw i hi)
    obtain ⟨f, hf⟩ := hch
    refine ⟨(List.range len).map f, ?_⟩
    have hlen : (((List.range len).map f).map be).length = len := by simp
    have key : Rel (whole w) (.sl (((List.range len).map f).map be)) (.slice (some x) (((List.range len).map f).map be).length cap) := by
      have hk : ∀ k e, (((List.range len).map f).map be)[k]? = some e → k < len ∧ e = be (f k) := fun k e he => by
        simp only [List.getElem?_map] at he
        cases hr : (List.range len)[k]? with
        | none => rw [hr] at he; cases he
        | some i =>
          rw [hr] at he
          obtain ⟨h1, h2⟩ := List.getElem?_eq_some_iff.1 hr
          simp at h1 h2
          subst h2
          cases he
          exact ⟨h1, rfl⟩
      refine .sl _ 1 (some x) cap (fun k j => .int .u8 (zs.getD k 0)) (by rw [hlen]; exact hl) (fun h0 => ?_) (fun k e he => by rw [(hk k e he).2]; rfl) (fun k j _ _ => rfl) (fun k e j y he hj => ?_)
      · rw [hlen] at h0
        obtain ⟨b, off, spot⟩ := x
        have hc := hce 0 (by omega)
        have hspot : spot = none := by simpa [Addr.add] using World.cell?_spot hc
        subst hspot
        refine ⟨b, off, rfl, fun k e he j hj => ?_⟩
        have hkl := (hk k e he).1
        have hj0 : j = 0 := by omega
        subst hj0
        have hc := hce k (by omega)
        rw [add_plain] at hc
        have e1 : hcell (whole w) b (off + (k * 1 + 0)) = w.cell? ⟨b, off + k, none⟩ := by
          unfold hcell whole World.cell?
          rw [Nat.mul_one, Nat.add_zero]
          cases w.heap[b]? with
          | none => rfl
          | some o => cases o <;> simp
        rw [e1]; exact hc
      · obtain ⟨hkl, rfl⟩ := hk k e he
        cases j with
        | zero =>
          cases hj
          rw [hf k hkl]; exact .sc _
        | succ j => simp [be] at hj
    rw [hlen] at key
    exact key

end Go.Proofs.Ytdlkmimgdghgcaa
