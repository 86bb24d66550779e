/- StrlitPrints: the plain law and the walk. -/
import Derived.Test.YtiaohbikaofbdaaDoorStrAwake
namespace Go.Proofs.YtiaohbikaofbdaaDoor
open Go.RowKit
namespace Str
set_option maxRecDepth 100000 in
theorem esc_seen0 : ∀ b : Fin 256, ∀ x ∈ esc (UInt8.ofNat b.val), 32 ≤ x.toNat ∧ x.toNat ≠ 127 := by decide
theorem esc_seen (b x : UInt8) (h : x ∈ esc b) : 32 ≤ x.toNat ∧ x.toNat ≠ 127 := by
  have := esc_seen0 ⟨b.toNat, b.toNat_lt⟩ x
  simp only [UInt8.ofNat_toNat] at this
  exact this h
theorem quote_seen (l : List UInt8) (x : UInt8) (h : x ∈ quote l) : 32 ≤ x.toNat ∧ x.toNat ≠ 127 := by
  unfold quote at h
  simp only [List.mem_cons, List.mem_append, List.mem_flatMap, List.not_mem_nil, or_false] at h
  rcases h with rfl | ⟨b, _, h⟩ | rfl
  · decide
  · exact esc_seen b x h
  · decide
theorem quote_length (l : List UInt8) : l.length + 2 ≤ (quote l).length ∧ (quote l).length ≤ 6 * l.length + 2 := by
  have := flatMap_esc_length l
  unfold quote
  simp only [List.length_cons, List.length_append, List.length_nil]; omega
end Str
set_option maxHeartbeats 1000000 in
theorem prints_any (s : ByteArray) (w : World) (g : Glob w) :
    Calls Tryd.prog 6 #[.string s] w fun e w' => e = .returned (.bool true) ∧ Below w.heap.size w w' := by
  have G := kept g; clear g
  by_cases h5 : s.size ≤ 5000
  · have h5' : ¬ (5000 : Int) < s.size := by omega
    have H1 := kept (fun W gW => quote_any s W (by omega) gW)
    have hl := Str.quote_length s.data.toList
    have hseen := Str.quote_seen s.data.toList
    have h0 : (Str.quote s.data.toList)[0]? = some 34 := rfl
    have h1 : (Str.quote s.data.toList)[(Str.quote s.data.toList).length - 1]? = some 34 := by
      unfold Str.quote
      rw [← List.cons_append, List.length_append, List.getElem?_append_right (by simp)]
      simp
    obtain ⟨q, hq⟩ : ∃ q : ByteArray, (⟨(Str.quote s.data.toList).toArray⟩ : ByteArray) = q := ⟨_, rfl⟩
    have hqs : q.size = (Str.quote s.data.toList).length := by rw [← hq]; exact size_mk _
    have hqg : ∀ (i : Nat) (h : i < q.size), (Str.quote s.data.toList)[i]? = some q[i] := by subst hq; intro i h; rw [List.getElem?_eq_getElem (by rw [size_mk] at h; exact h)]; rfl
    have hle : s.size + 2 ≤ q.size := by rw [hqs]; simpa using hl.1
    have hle2 : q.size ≤ 30002 := by rw [hqs]; have := hl.2; simp at this; omega
    have hp : 0 < q.size := by omega
    have hx : q.size - 1 < q.size := by omega
    have g0 : (q[0].toNat : Int) = 34 := by
      have := (hqg 0 hp).symm.trans h0
      rw [Option.some.inj this]; rfl
    have g1 : (q[q.size - 1].toNat : Int) = 34 := by
      have e : (Str.quote s.data.toList)[q.size - 1]? = some 34 := by rw [hqs]; exact h1
      have := (hqg (q.size - 1) hx).symm.trans e
      rw [Option.some.inj this]; rfl
    have Hs : Kept (∀ (i : Nat) (h : i < q.size), 32 ≤ q[i].toNat ∧ q[i].toNat ≠ 127) := kept fun i h => hseen _ (List.mem_of_getElem? (hqg i h))
    rw [hq] at H1
    clear hl hseen h0 h1 hq hqs hqg
    go_enter Tryd.func6, Tryd.ntmps6
    go_wp2_with fail
    refine (H1.out _ G.out).mono ?_; rintro e w1 ⟨rfl, b1⟩
    have B1 := kept b1; clear b1
    go_wp2
    go_loopw [4] (fun iv wr => Below w.heap.size w wr ∧ ∃ k : Nat, k ≤ q.size ∧ iv = .int .i64 k) (fun iv _ => q.size - (intOf iv).toNat)
    case atStart => exact ⟨B1.out, 0, by omega, rfl⟩
    case round =>
      obtain ⟨hbel, k, hk, rfl⟩ := hrel
      have Hl := kept hbel; clear hbel B1
      by_cases hlt : k < q.size
      · have hlt' : (k : Int) < q.size := by omega
        have h2 := Hs.out k hlt
        obtain ⟨u, hu⟩ : ∃ u : Int, (q[k].toNat : Int) = u := ⟨_, rfl⟩
        have hu1 : ¬ u < 32 := by omega
        have hu2 : (u == 127) = false := by simp; omega
        have hu3 : ¬ u = 127 := by omega
        clear h2
        go_wp2
        go_roundw
        case rel => exact ⟨Hl.out, k + 1, by omega, by go_num⟩
        case measure => simp [intOf]; omega
      · have hlt' : ¬ (k : Int) < q.size := by omega
        go_wp2_with fail
        refine (awake_any _ (G.out.below Hl.out)).mono ?_; rintro e w2 ⟨rfl, b2⟩
        have B2 := kept (bthen Hl.out b2); clear b2
        go_wp2
        go_ret
        exact ⟨rfl, B2.out⟩
  · have h5' : (5000 : Int) < s.size := by omega
    go_enter Tryd.func6, Tryd.ntmps6
    go_wp2_with fail
    refine (awake_any _ G.out).mono ?_; rintro e w1 ⟨rfl, b1⟩
    have B1 := kept b1; clear b1
    go_wp2
    go_ret
    exact ⟨rfl, B1.out⟩
end Go.Proofs.YtiaohbikaofbdaaDoor
