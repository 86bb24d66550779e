/- Small laws over any program: rows of bytes that a call makes, their conversion to strings, appends to them. -/
import Derived.WalkKit
import Derived.WalkSpells
import Derived.WalkLawsBesides
import Derived.Laws.BitsAllLaws
import Derived.Lib.Hide
namespace Go.Proofs.YtbpaeglmanjbfaaDoor
open Go.RowKit

/-- A fact kept from the walk: a structure, which no comparison opens. -/
structure Kept (p : Prop) : Prop where
  out : p
theorem kept {p : Prop} (h : p) : Kept p := ⟨h⟩
theorem ret_int {k : IntKind} {a b : Int} (h : a = b) : Ending.returned (.int k a) = Ending.returned (.int k b) := by rw [h]
theorem ret_nat {k : IntKind} {a b : Nat} (h : a = b) : Ending.returned (.int k (a : Int)) = Ending.returned (.int k (b : Int)) := by rw [h]
theorem ret_str {a b : List UInt8} (h : a = b) : Ending.returned (.string ⟨a.toArray⟩) = Ending.returned (.string ⟨b.toArray⟩) := by rw [h]
theorem ret_bool {a b : Bool} (h : a = b) : Ending.returned (.bool a) = Ending.returned (.bool b) := by rw [h]

theorem run_cat {P : Program} (w : World) {a b : ByteArray} {l m : List UInt8} (ha : a.data.toList = l) (hb : b.data.toList = m) (h : l.length + m.length < 1099511627776) :
    (Op.stringOp .add a b).run P w = .ok (.string ⟨(l ++ m).toArray⟩) w := by
  have e1 : a.size = l.length := by rw [← ha]; simp
  have e2 : b.size = m.length := by rw [← hb]; simp
  rw [run_string_add_sum w a b (by omega)]
  congr 2
  apply ByteArray.ext
  apply Array.toList_inj.1
  simp [ha, hb]
theorem str_of {s : ByteArray} {l : List UInt8} (h : s.data.toList = l) : s = ⟨l.toArray⟩ := by subst h; simp

theorem size_mk (l : List UInt8) : (⟨l.toArray⟩ : ByteArray).size = l.length := by show l.toArray.size = _; simp
theorem bthen {W a b : World} (h : Below W.heap.size W a) (k : Below a.heap.size a b) : Below W.heap.size W b := h.trans (k.mono h.size)
theorem bdrew (W : World) : Below W.heap.size W W.drew := (Below.refl _ _).drew
theorem ball (W : World) (o : Obj) : Below W.heap.size W (W.alloc o) := (Below.refl _ _).alloc (Nat.le_refl _) o
theorem wf_u8 {n : Int} (h : (Lit.int .u8 n).wf = true) : 0 ≤ n ∧ n < 256 := by
  have : 0 ≤ n ∧ n ≤ 255 := by simpa [Lit.wf, IntKind.min, IntKind.max, IntKind.signed, IntKind.bits] using h
  omega
theorem wf_u16 {n : Int} (h : (Lit.int .u16 n).wf = true) : 0 ≤ n ∧ n < 65536 := by
  have : 0 ≤ n ∧ n ≤ 65535 := by simpa [Lit.wf, IntKind.min, IntKind.max, IntKind.signed, IntKind.bits] using h
  omega
theorem wf_u32 {n : Int} (h : (Lit.int .u32 n).wf = true) : 0 ≤ n ∧ n < 4294967296 := by
  have : 0 ≤ n ∧ n ≤ 4294967295 := by simpa [Lit.wf, IntKind.min, IntKind.max, IntKind.signed, IntKind.bits] using h
  omega
theorem wf_u64 {n : Int} (h : (Lit.int .u64 n).wf = true) : 0 ≤ n ∧ n < 18446744073709551616 := by
  have : 0 ≤ n ∧ n ≤ 18446744073709551615 := by simpa [Lit.wf, IntKind.min, IntKind.max, IntKind.signed, IntKind.bits] using h
  omega
theorem wf_i64 {n : Int} (h : (Lit.int .i64 n).wf = true) : -9223372036854775808 ≤ n ∧ n ≤ 9223372036854775807 := by
  simpa [Lit.wf, IntKind.min, IntKind.max, IntKind.signed, IntKind.bits] using h

/-- The cells of some bytes. -/
def bcells (l : List UInt8) : List Value := l.map fun b => Value.int .u8 b.toNat
theorem bcells_length (l : List UInt8) : (bcells l).length = l.length := by simp [bcells]
theorem bcells_get (l : List UInt8) (j : Nat) (h : j < l.length) : (bcells l)[j]? = some (.int .u8 l[j].toNat) := by simp [bcells, h]
theorem bcells_append (l m : List UInt8) : bcells (l ++ m) = bcells l ++ bcells m := by simp [bcells]
theorem bcells_set (l : List UInt8) (j : Nat) (b : UInt8) : bcells (l.set j b) = (bcells l).set j (.int .u8 b.toNat) := by simp [bcells, List.map_set]
theorem byte_of (n : Int) (h0 : 0 ≤ n) (h : n < 256) : ((UInt8.ofNat n.toNat).toNat : Int) = n := by
  rw [UInt8.toNat_ofNat']; omega
theorem add_off (b o j : Nat) : (⟨b, o, none⟩ : Addr).add j = ⟨b, o + j, none⟩ := by unfold Addr.add; split <;> simp_all

/-- Block g begins with the bytes l, and these may be written. -/
def BytesAt (w : World) (g : Nat) (e : TypeId) (l : List UInt8) : Prop :=
  ∃ cur lo hi, w.heap[g]? = some (.cells cur e (lo, hi)) ∧ cur.toList.take l.length = bcells l ∧ (l.length ≤ lo ∨ hi = 0)

namespace BytesAt
variable {w : World} {g : Nat} {e : TypeId} {l : List UInt8}

theorem lt (h : BytesAt w g e l) : g < w.heap.size := by
  obtain ⟨cur, lo, hi, hg, _⟩ := h
  exact (Array.getElem?_eq_some_iff.1 hg).1
theorem cell (h : BytesAt w g e l) (j : Nat) (hj : j < l.length) : w.cell? ⟨g, j, none⟩ = some (.int .u8 l[j].toNat) := by
  obtain ⟨cur, lo, hi, hg, ht, _⟩ := h
  rw [cell_of_row w g j cur e (lo, hi) hg]
  have h1 : (cur.toList.take l.length)[j]? = cur.toList[j]? := by rw [List.getElem?_take_of_lt hj]
  rw [← Array.getElem?_toList, ← h1, ht, bcells_get l j hj]
theorem free (h : BytesAt w g e l) (j : Nat) (hj : j < l.length) : w.frozen? ⟨g, j, none⟩ = false := by
  obtain ⟨cur, lo, hi, hg, _, hf⟩ := h
  simp only [World.frozen?, hg]
  rcases hf with hf | hf
  · have : ¬ lo ≤ j := by omega
    simp [this]
  · subst hf; simp
theorem set (h : BytesAt w g e l) (j : Nat) (b : UInt8) : BytesAt (w.setCell ⟨g, j, none⟩ (.int .u8 b.toNat)) g e (l.set j b) := by
  obtain ⟨cur, lo, hi, hg, ht, hf⟩ := h
  refine ⟨cur.setIfInBounds j (.int .u8 b.toNat), lo, hi, ?_, ?_, by simpa using hf⟩
  · simp only [World.setCell, Array.getElem?_modify, if_true]
    rw [hg]; simp
  · rw [Array.toList_setIfInBounds, List.length_set, List.take_set, ht, bcells_set]
theorem set_int (h : BytesAt w g e l) (j : Nat) (n : Int) (h0 : 0 ≤ n) (h1 : n < 256) :
    BytesAt (w.setCell ⟨g, j, none⟩ (.int .u8 n)) g e (l.set j (UInt8.ofNat n.toNat)) := by
  have := h.set j (UInt8.ofNat n.toNat)
  rwa [byte_of n h0 h1] at this
theorem below {w' : World} {B : Nat} (h : BytesAt w g e l) (hb : Below B w w') (hg : g < B) : BytesAt w' g e l := by
  obtain ⟨cur, lo, hi, h1, h2⟩ := h
  exact ⟨cur, lo, hi, (hb.block g hg).trans h1, h2⟩
theorem alloc (h : BytesAt w g e l) (o : Obj) : BytesAt (w.alloc o) g e l :=
  h.below ((Below.refl w.heap.size w).alloc (Nat.le_refl _) o) h.lt
theorem conv {P : Program} (h : BytesAt w g e l) (src dst : TypeId) (cap : Nat) (hs : P.underlying src = some (.slice e)) (he : P.underlying e = some (.int .u8)) (hd : P.underlying dst = some .string) :
    (convert src dst (.slice (some ⟨g, 0, none⟩) l.length cap)).run P w = .ok (.string ⟨l.toArray⟩) w :=
  run_convert_bytes_back w src dst e ⟨g, 0, none⟩ cap l hs he hd (fun j hj => by rw [add_off, Nat.zero_add]; exact h.cell j hj)
theorem conv_of {P : Program} (h : BytesAt w g e l) (src dst : TypeId) (n cap : Nat) (hn : l.length = n) (hs : P.underlying src = some (.slice e)) (he : P.underlying e = some (.int .u8)) (hd : P.underlying dst = some .string) :
    (convert src dst (.slice (some ⟨g, 0, none⟩) n cap)).run P w = .ok (.string ⟨l.toArray⟩) w := by subst hn; exact h.conv src dst cap hs he hd
/-- The block that a literal lays. -/
theorem lit (w : World) (e : TypeId) (l : List UInt8) : BytesAt (w.alloc (.cells (bcells l).toArray e)) w.heap.size e l :=
  ⟨(bcells l).toArray, 0, 0, heap_alloc_new w _, by simp [← bcells_length], .inr rfl⟩
/-- The block that make lays. -/
theorem made (w : World) (e : TypeId) (n : Nat) : BytesAt (w.alloc (.cells (madeCells #[.int .u8 0] n) e)) w.heap.size e (List.replicate n 0) := by
  refine ⟨madeCells #[.int .u8 0] n, 0, 0, heap_alloc_new w _, ?_, .inr rfl⟩
  rw [toList_madeCells_one]; simp [bcells]
/-- The block that a string's conversion lays. -/
theorem ofString (w : World) (e : TypeId) (s : ByteArray) (cap : Nat) :
    BytesAt (w.drew.alloc (.cells (bytesRow s cap) e ((bytesRow s cap).size, (bytesRow s cap).size + 1))) w.heap.size e s.data.toList := by
  refine ⟨bytesRow s cap, (bytesRow s cap).size, (bytesRow s cap).size + 1, heap_alloc_new w.drew _, ?_, .inl ?_⟩
  · unfold bytesRow bcells
    rw [Array.toList_append, List.take_append_of_le_length (by simp), List.take_of_length_le (by simp)]
    simp
  · unfold bytesRow; simp
end BytesAt

/-- '[]byte(s)'. -/
theorem bytes_of {P : Program} (w : World) (s : ByteArray) (src dst e : TypeId) (hs : P.underlying src = some .string) (hd : P.underlying dst = some (.slice e)) (he : P.underlying e = some (.int .u8)) :
    ∃ cap W1, (convert src dst (.string s)).run P w = .ok (.slice (some ⟨w.heap.size, 0, none⟩) s.size cap) W1 ∧ s.size ≤ cap ∧ BytesAt W1 w.heap.size e s.data.toList ∧ Below w.heap.size w W1 ∧ w.heap.size < W1.heap.size :=
  ⟨_, _, run_bytes_of_string w src dst e s hs hd he, grownCap_ge w s.size 0 e, BytesAt.ofString w e s _, (Below.refl _ w).drew.alloc (Nat.le_refl _) _, by simp⟩

/-- The slice v is nil or leads to the beginning of a block of the call's own (from base on), and reads as the bytes l. -/
def OwnsB (w : World) (base : Nat) (e : TypeId) (v : Value) (l : List UInt8) : Prop := w.ownsRow base e 1 v l.length (bcells l)
namespace OwnsB
variable {w : World} {base : Nat} {e : TypeId} {v : Value} {l : List UInt8}
theorem nil (w : World) (base : Nat) (e : TypeId) : OwnsB w base e (.slice none 0 0) [] := World.ownsRow_nil w base e 1
theorem below {w' : World} {B : Nat} (h : OwnsB w base e v l) (hb : Below B w w') (hB : w.heap.size ≤ B) : OwnsB w' base e v l :=
  World.ownsRow.kept (row := none) h ⟨hb.os, hb.tape, hb.output, hb.size, fun k hk _ => hb.block k (by omega)⟩ (by cases v.ownBlock <;> simp)
theorem conv {P : Program} (h : OwnsB w base e v l) (src dst : TypeId) (hs : P.underlying src = some (.slice e)) (he : P.underlying e = some (.int .u8)) (hd : P.underlying dst = some .string) :
    (convert src dst v).run P w = .ok (.string ⟨l.toArray⟩) w := by
  rcases h.2 with ⟨rfl, h0⟩ | ⟨g, cap, cur, rfl, _, hg, _, _, _, ht⟩
  · obtain rfl : l = [] := List.eq_nil_of_length_eq_zero h0
    rw [run_convert_bytes_string w src dst e none 0 0 hs he hd]
    simp [Conv.bytesToString]; rfl
  · exact BytesAt.conv (e := e) ⟨cur, 0, 0, hg, by simpa using ht, .inr rfl⟩ src dst cap hs he hd
end OwnsB

/-- 'append(s, b)' on a slice of bytes of the call's own. -/
theorem wpList_append_byte {P : Program} {ops : Array Oper} {rest : List Oper} {o : Oper} {a : Act} {Q : Exit → Act → World → Prop} {w0 w : World} (hgd : o.guard = none) (s x : Operand) (t e : TypeId)
    (ho : o.op = .call { callee := .builtin .append, args := #[s, x], argTypes := #[t, t] })
    (ht : P.underlying t = some (.slice e)) (hi : (P.info? e).map (fun i => (i.zero, i.size, i.bytes)) = some (some (.int .u8 0), 1, 1))
    (B : Nat) (v : Value) (l : List UInt8) (hs : a.eval s = v) (hown : OwnsB w B e v l) (hbel : Below B w0 w)
    (ad : Addr) (c : Nat) (n : Int) (hx : a.eval x = .slice (some ad) 1 c) (hcell : w.cell? ad = some (.int .u8 n)) (h0 : 0 ≤ n) (h1 : n < 256)
    (hlen : l.length < 1099511627776) (hbase : B ≤ w.heap.size)
    (h : ∀ v' w', OwnsB w' B e v' (l ++ [UInt8.ofNat n.toNat]) → Below B w0 w' → w.heap.size ≤ w'.heap.size → wpList P ops Q rest (a.put o.dst v') w') : wpList P ops Q (o :: rest) a w := by
  obtain ⟨i0, hi0, hz0, hz1, hz2⟩ := info_parts hi
  refine wpList_append_own w hgd s x t ho B e i0 (.int .u8 0) 1 1 ht hi0 hz0 hz1 hz2 rfl (by decide) v l.length (bcells l) hs hown ad 1 c [.int .u8 n] hx rfl ?_ (by intro u hu; simp at hu; subst hu; rfl)
    (by unfold maxLen; omega) (by omega) hbase ?_
  · intro j u hu
    cases j with
    | zero => simp at hu; subst hu; simpa [Addr.add] using hcell
    | succ j => simp at hu
  · intro v' w' hown' hgr _
    refine h v' w' ?_ (hbel.grown hgr hbase ?_) hgr.size
    · show w'.ownsRow B e 1 v' _ _
      rw [bcells_append, List.length_append]
      have : bcells [UInt8.ofNat n.toNat] = [.int .u8 n] := by simp only [bcells, List.map, byte_of n h0 h1]
      rw [this]; exact hown'
    · intro k hk
      exact (World.ownsRow.lt hown k hk).1
end Go.Proofs.YtbpaeglmanjbfaaDoor
