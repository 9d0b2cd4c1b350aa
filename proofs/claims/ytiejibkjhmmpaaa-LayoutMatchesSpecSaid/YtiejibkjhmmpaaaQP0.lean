/- The cut with three indices in layout.Place: what the run gives, and the part as a row that is only read. -/
import Derived.Test.YtiejibkjhmmpaaaQ0
namespace Go.Proofs.Ytiejibkjhmmpaaa.Q
open Go.RowKit Go.Proofs.YtiejibkjhmmpaaaW.PrintWords Go.Proofs.YtiejibkjhmmpaaaW.PrintLast Go.Proofs.YtiejibkjhmmpaaaW.PrintMore
set_option linter.unusedVariables false
set_option linter.unusedSimpArgs false
theorem place_cut {w : World} {base : Nat} {ok : Nat → Prop} {A : Option Addr} {n c : Nat} {t y z : List Int} (l m h : Int) (HO : Kd.R (Kd.int .i64) 3 w base ok (.slice A n c) t) (hy : y = t.drop l.toNat) (hz : z = y.take m.toNat)
    (h0 : 0 ≤ l) (hm : 0 ≤ m) (hmy : m ≤ y.length) (hlt : l ≤ t.length) (hh : h = l + m) :
    IntKind.i64.wrap (l + m) = h ∧ wrap64 (l + m) = h ∧ ∃ (A' : Option Addr) (c' : Nat), (∀ W : World, (Instr.slice 28 (.slice A n c) (some (.int .i64 l)) (some (.int .i64 h)) (some (.int .i64 h))).run Try.prog W = .ok (.slice A' z.length c') W) ∧
      Kd.V (Kd.int .i64) 3 w base (fun k => base ≤ k) (.slice A' z.length c') z := by
  obtain ⟨hn, hnc, hC⟩ := Kd.R_reads' HO
  have hmax : t.length ≤ 9223372036854775807 := hC.2.1
  have hyl : y.length = t.length - l.toNat := by rw [hy, List.length_drop]
  have hzl : z.length = m.toNat := by rw [hz, List.length_take]; omega
  have hw : IntKind.i64.wrap (l + m) = l + m := by rw [i64_w]; unfold wrap64; omega
  refine ⟨by rw [hw, hh], by rw [← i64_w, hw, hh], ?_⟩
  obtain ⟨i0, hi0, _, hsz0, _⟩ := info_parts info3
  have hel : Try.prog.elem 28 = 3 := by simp [Program.elem, Try.underlying28]
  have hu : Try.prog.underlying 28 = some (.slice (Try.prog.elem 28)) := by rw [hel]; exact Try.underlying28
  refine ⟨if h.toNat = l.toNat then A else A.map (·.add (l.toNat * 1)), h.toNat - l.toNat, fun W => ?_, ?_⟩
  · rw [run_slice_lhm W 28 A n c hu .i64 .i64 .i64 l h h h0 (by omega) (Int.le_refl _) (by omega), hel]
    have e1 : h.toNat - l.toNat = z.length := by omega
    simp [sizeOf, typeInfo, hi0, hsz0, sliced, Result.andThen, e1]
  · have e2 : z.length ≤ h.toNat - l.toNat := by omega
    have HQ := Kd.Q_drop (k := l.toNat) (Kd.Q_of_R (Kd.R_mono (Kd.R_bound HO) (fun k hk => hk.2.1))) (by omega)
    rw [← hy] at HQ
    by_cases hm0 : m = 0
    · have hz0 : z = [] := List.length_eq_zero_iff.mp (by omega)
      subst hz0
      exact ⟨_, _, rfl, Nat.zero_le _, fun W' _ => ⟨rfl, by simp, fun h0 => absurd h0 (by simp)⟩⟩
    · have hne : ¬ h.toNat = l.toNat := by omega
      have hcl : ¬ c = l.toNat := by omega
      rw [if_neg hcl] at HQ
      have e3 : n - l.toNat = y.length := by omega
      rw [e3] at HQ
      have HF := Kd.Q_F HQ
      rw [if_neg hne]
      have HT := Kd.F_take (m := m.toNat) HF (by omega)
      rw [← hz] at HT
      exact ⟨_, _, rfl, e2, HT⟩
/-- A row that is only read and isn't empty lies in its own blocks. -/
theorem V_blk {W : World} {base n c g : Nat} {ok : Nat → Prop} {ad : Addr} {xs : List Int} (h : Kd.V (Kd.int .i64) 3 W base ok (.slice (some ad) n c) xs) (hn : 0 < xs.length) (hok : ∀ k, ok k → k ≠ g) : ad.block ≠ g := by
  rintro rfl
  obtain ⟨_, _, hF⟩ := Kd.V_at h
  have hC := hF { W with heap := W.heap.modify ad.block (fun _ => .cells #[] 0 (0, 0)) } (fun k hk _ => by
    show (W.heap.modify ad.block _)[k]? = W.heap[k]?
    rw [Array.getElem?_modify, if_neg (fun e => hok k hk e.symm)])
  obtain ⟨ad', e, hc⟩ := hC.2.2 hn
  injection e with e
  subst e
  obtain ⟨cs, hcl, hK, hcell⟩ := hc 0 xs[0] (List.getElem?_eq_getElem hn)
  have hK' : cs = [.int .i64 xs[0]] := hK
  have h1 := hcell 0 (.int .i64 xs[0]) (by rw [hK']; rfl)
  unfold World.cell? at h1
  rw [add_block] at h1
  have h2 : (W.heap.modify ad.block (fun _ => Obj.cells #[] 0 (0, 0)))[ad.block]? = (W.heap[ad.block]?).map (fun _ => Obj.cells #[] 0 (0, 0)) := by rw [Array.getElem?_modify, if_pos rfl]
  have h3 : ({ W with heap := W.heap.modify ad.block (fun _ => .cells #[] 0 (0, 0)) } : World).heap[ad.block]? = (W.heap[ad.block]?).map (fun _ => Obj.cells #[] 0 (0, 0)) := h2
  rw [h3] at h1
  cases hh : W.heap[ad.block]? with
  | none => rw [hh] at h1; simp at h1
  | some o => rw [hh] at h1; simp at h1
end Go.Proofs.Ytiejibkjhmmpaaa.Q
