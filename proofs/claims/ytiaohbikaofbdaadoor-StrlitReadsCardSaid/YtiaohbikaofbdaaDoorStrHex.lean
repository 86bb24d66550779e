import Derived.Test.YtiaohbikaofbdaaDoorStrProg1
import Derived.BigRegion
namespace Go.Proofs.YtiaohbikaofbdaaDoor
open Go.RowKit
theorem tz64 (w : World) (hc : w.cell? ⟨5, 15, none⟩ = some (.int .u8 4)) : Calls Tryd.prog 69 #[.int .u64 16] w fun e w' => e = .returned (.int .i64 4) ∧ Below w.heap.size w w' := by
    have e1 : IntKind.u64.wrap (bits BinOp.and IntKind.u64 16 (IntKind.u64.wrap (-16)) * 285870213051353865) / 288230376151711744 = 15 := by decide
    go_enter Tryd.func69, Tryd.ntmps69
    go_wp2
    go_ret
    exact ⟨rfl, Below.refl _ _⟩
theorem tz_16 (w : World) (g : Glob w) : Calls Tryd.prog 62 #[.int .u64 16] w fun e w' => e = .returned (.int .i64 4) ∧ Below w.heap.size w w' := by
  have hc := g.tz
  clear g
  go_enter Tryd.func62, Tryd.ntmps62
  go_wp2_with fail
  refine (tz64 _ hc).mono ?_; rintro e w1 ⟨rfl, b1⟩
  go_wp2
  go_ret
  exact ⟨rfl, b1⟩
theorem pow2_16 (w : World) : Calls Tryd.prog 61 #[.int .i64 16] w fun e w' => e = .returned (.bool true) ∧ w = w' := by
  have e1 : (bits BinOp.and IntKind.i64 16 15) = 0 := by decide
  go_enter Tryd.func61, Tryd.ntmps61
  go_wp2
  go_ret
  exact ⟨rfl, rfl⟩

theorem BytesAt.conv_from {P : Program} {w : World} {g : Nat} {e0 : TypeId} {l : List UInt8} (h : BytesAt w g e0 l) (src dst e : TypeId) (k n cap : Nat) (hn : k + n = l.length) (hs : P.underlying src = some (.slice e)) (he : P.underlying e = some (.int .u8)) (hd : P.underlying dst = some .string) :
    (convert src dst (.slice (some ⟨g, k, none⟩) n cap)).run P w = .ok (.string ⟨(l.drop k).toArray⟩) w := by
  obtain rfl : (l.drop k).length = n := by rw [List.length_drop]; omega
  exact run_convert_bytes_back w src dst e ⟨g, k, none⟩ cap (l.drop k) hs he hd (fun j hj => by
    rw [add_off, List.getElem_drop]; exact h.cell (k + j) (by rw [List.length_drop] at hj; omega))
theorem zeros_at (w : World) : BytesAt (w.alloc (.cells Tryd.zeroCells82 82)) w.heap.size 82 (List.replicate 65 0) :=
  ⟨Tryd.zeroCells82, 0, 0, heap_alloc_new w _, by rfl, .inr rfl⟩
set_option maxRecDepth 100000 in
theorem mask15 : ∀ x : Fin 256, bits .and .u64 ((x.val : Nat) : Int) 15 = ((x.val % 16 : Nat) : Int) := by decide
theorem dg_all : ∀ d : Fin 16, (#[48, 49, 50, 51, 52, 53, 54, 55, 56, 57, 97, 98, 99, 100, 101, 102, 103, 104, 105, 106, 107, 108, 109, 110, 111, 112, 113, 114, 115, 116, 117, 118, 119, 120, 121, 122] : Array UInt8)[d.val]'(Nat.lt_trans d.isLt (by decide)) = Str.hd d.val := by decide
theorem dg_at (d : Nat) (h : d < 16) (h' : d < (⟨#[48, 49, 50, 51, 52, 53, 54, 55, 56, 57, 97, 98, 99, 100, 101, 102, 103, 104, 105, 106, 107, 108, 109, 110, 111, 112, 113, 114, 115, 116, 117, 118, 119, 120, 121, 122]⟩ : ByteArray).size) : (⟨#[48, 49, 50, 51, 52, 53, 54, 55, 56, 57, 97, 98, 99, 100, 101, 102, 103, 104, 105, 106, 107, 108, 109, 110, 111, 112, 113, 114, 115, 116, 117, 118, 119, 120, 121, 122]⟩ : ByteArray)[d]'h' = Str.hd d := dg_all ⟨d, h⟩
set_option maxHeartbeats 1000000 in
theorem bits_hex (u : Nat) (w : World) (g : Glob w) (hu : u < 256) :
    Calls Tryd.prog 49 #[.slice none 0 0, .int .u64 u, .int .i64 16, .bool false, .bool false] w fun e w' => e = .returned (.tuple #[.slice none 0 0, .string ⟨(Str.hexL u).toArray⟩]) ∧ Below w.heap.size w w' := by
  have G := kept g; clear g
  have Z := kept (zeros_at w)
  have B0 := kept (ball w (.cells Tryd.zeroCells82 82))
  go_enter Tryd.func49, Tryd.ntmps49
  go_wp2_with fail
  refine (pow2_16 _).mono ?_; rintro e w1 ⟨rfl, rfl⟩
  generalize w.alloc (.cells Tryd.zeroCells82 82) = w1 at Z B0
  go_wp2_with fail
  refine (tz_16 _ (G.out.below B0.out)).mono ?_; rintro e w2 ⟨rfl, b2⟩
  have B2 := kept (bthen B0.out b2)
  have Z2 := kept (Z.out.below b2 Z.out.lt)
  clear Z B0 b2
  go_wp2
  go_loopw [1, 13] (fun uv iv wr => Below w.heap.size w wr ∧ ((uv = .int .u64 u ∧ iv = .int .i64 65 ∧ BytesAt wr w.heap.size 82 (List.replicate 65 0)) ∨ (16 ≤ u ∧ uv = .int .u64 ((u / 16 : Nat) : Int) ∧ iv = .int .i64 64 ∧ BytesAt wr w.heap.size 82 ((List.replicate 65 0).set 64 (Str.hd (u % 16)))))) (fun uv _ _ => (intOf uv).toNat)
  case atStart => exact ⟨B2.out, .inl ⟨rfl, rfl, Z2.out⟩⟩
  case round =>
    clear Z2 B2
    obtain ⟨hbel, ⟨rfl, rfl, hz⟩ | ⟨h16, rfl, rfl, hz⟩⟩ := hrel
    · have Hl := kept hbel; have Hz := kept hz
      clear hbel hz
      by_cases h16 : 16 ≤ u
      · have h16' : (16 : Int) ≤ u := by omega
        have hc : wr.cell? ⟨w.heap.size, 64, none⟩ = _ := Hz.out.cell 64 (by decide)
        have hf : wr.frozen? ⟨w.heap.size, 64, none⟩ = _ := Hz.out.free 64 (by decide)
        have Hs := kept (Hz.out.set 64 (Str.hd (u % 16)))
        have ha : bits .and .u64 (u : Int) 15 = ((u % 16 : Nat) : Int) := mask15 ⟨u, hu⟩
        have hr : 0 ≤ (u : Int) % 16 ∧ (u : Int) % 16 < 36 := by omega
        go_wp2
        rw [dg_at _ (by omega)]
        refine ⟨⟨Hl.out.setCell (Nat.le_refl _) _, .inr ⟨h16, rfl, rfl, Hs.out⟩⟩, ?_⟩
        simp only [intOf]; omega
      · have h16' : ¬ (16 : Int) ≤ u := by omega
        have hc : wr.cell? ⟨w.heap.size, 64, none⟩ = _ := Hz.out.cell 64 (by decide)
        have hf : wr.frozen? ⟨w.heap.size, 64, none⟩ = _ := Hz.out.free 64 (by decide)
        have hs := Hz.out.set 64 (Str.hd u)
        have hcv := hs.conv_from (P := Tryd.prog) 34 9 5 64 1 1 (by simp) Tryd.underlying34 Tryd.underlying5 Tryd.underlying9
        have hdg : ∀ h', (⟨#[48, 49, 50, 51, 52, 53, 54, 55, 56, 57, 97, 98, 99, 100, 101, 102, 103, 104, 105, 106, 107, 108, 109, 110, 111, 112, 113, 114, 115, 116, 117, 118, 119, 120, 121, 122]⟩ : ByteArray)[u]'h' = Str.hd u := dg_at u (by omega)
        have hr : 0 ≤ (u : Int) ∧ (u : Int) < 36 := by omega
        clear hs
        go_wp2
        refine bodyPost_ret (v := .tuple #[.slice none 0 0, .string ⟨#[Str.hd u]⟩]) (by simp [results, Tryd.results49, go_sem]) rfl ⟨?_, Hl.out.setCell (Nat.le_refl _) _⟩
        unfold Str.hexL; rw [if_pos (by omega)]
    · have Hl := kept hbel; have Hz := kept hz
      clear hbel hz
      obtain ⟨v, hv⟩ : ∃ v, u / 16 = v := ⟨_, rfl⟩
      have Hv := kept hv
      have h16' : ¬ (16 : Int) ≤ v := by omega
      have hr : 0 ≤ (v : Int) ∧ (v : Int) < 36 := by omega
      rw [hv]
      have hdg : ∀ h', (⟨#[48, 49, 50, 51, 52, 53, 54, 55, 56, 57, 97, 98, 99, 100, 101, 102, 103, 104, 105, 106, 107, 108, 109, 110, 111, 112, 113, 114, 115, 116, 117, 118, 119, 120, 121, 122]⟩ : ByteArray)[v]'h' = Str.hd v := dg_at v (by omega)
      clear hv
      have hc : wr.cell? ⟨w.heap.size, 63, none⟩ = _ := Hz.out.cell 63 (by rw [List.length_set]; decide)
      have hf : wr.frozen? ⟨w.heap.size, 63, none⟩ = _ := Hz.out.free 63 (by rw [List.length_set]; decide)
      have hs := Hz.out.set 63 (Str.hd v)
      have hcv := hs.conv_from (P := Tryd.prog) 34 9 5 63 2 2 (by simp) Tryd.underlying34 Tryd.underlying5 Tryd.underlying9
      clear hs
      go_wp2
      refine bodyPost_ret (v := .tuple #[.slice none 0 0, .string ⟨#[Str.hd v, Str.hd (u % 16)]⟩]) (by simp [results, Tryd.results49, go_sem]) rfl ⟨?_, Hl.out.setCell (Nat.le_refl _) _⟩
      unfold Str.hexL; rw [if_neg (by omega), Hv.out]
theorem format_hex (u : Nat) (w : World) (g : Glob w) (hu : u < 256) :
    Calls Tryd.prog 38 #[.int .i64 u, .int .i64 16] w fun e w' => e = .returned (.string ⟨(Str.hexL u).toArray⟩) ∧ Below w.heap.size w w' := by
  have hb := bits_hex u w g hu
  have h0 : ¬ (u : Int) < 0 := by omega
  clear g
  go_enter Tryd.func38, Tryd.ntmps38
  go_wp2_with fail
  refine hb.mono ?_; rintro e w1 ⟨rfl, b1⟩
  go_wp2
  go_ret
  exact ⟨rfl, b1⟩
theorem format_any (u : Nat) (w : World) (g : Glob w) (hu : u < 256) :
    Calls Tryd.prog 25 #[.int .i64 u, .int .i64 16] w fun e w' => e = .returned (.string ⟨(Str.hexL u).toArray⟩) ∧ Below w.heap.size w w' := by
  have hb := format_hex u w g hu
  clear g
  go_enter Tryd.func25, Tryd.ntmps25
  go_wp2_with fail
  refine hb.mono ?_; rintro e w1 ⟨rfl, b1⟩
  go_wp2
  go_ret
  exact ⟨rfl, b1⟩
end Go.Proofs.YtiaohbikaofbdaaDoor
