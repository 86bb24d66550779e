/- The walks of provisionref13: begins, Scan. -/
import Derived.Test.YtbpaeglmanjbfaaDoorTokList
namespace Go.Proofs.YtbpaeglmanjbfaaDoor
open Go.RowKit
set_option linter.unusedSimpArgs false
set_option linter.unusedVariables false
set_option maxHeartbeats 1000000 in
theorem refBegins_any (s : ByteArray) (k : Nat) (w : World) (hs : s.size ≤ 1000000) (hk : k < s.size) :
    Calls Tryd.prog 30 #[.string s, .int .i64 k] w fun e w' => e = .returned (.bool (Tok.beginsB (s.data.toList.drop k))) ∧ Below w.heap.size w w' := by
  have hb := Tok.begins_at s k hk
  obtain ⟨r, hr⟩ : ∃ r, Tok.beginsB (s.data.toList.drop k) = r := ⟨_, rfl⟩
  rw [hr] at hb ⊢
  have Hb := kept hb
  clear hb hr
  have Hl := kept (refLetter_any s[k]); have Hd := kept (refDigit_any s[k]); have Hsg := kept (fun w => refSign_any s k w hs hk)
  have hlt' : (k : Int) < s.size := by omega
  obtain ⟨u, huu, hu0, hu1⟩ := byte_int s[k]
  rw [huu] at Hl Hd
  rcases bool_or (Tok.isLetter s[k]) with hl | hl
  · rw [hl] at Hl
    have Hr := kept (show r = true by rw [Hb.out, hl]; rfl)
    clear hl
    go_enter Tryd.func30, Tryd.ntmps30
    go_wp2_with fail
    (with_reducible refine (Hl.out _).mono ?_); rintro e w1 ⟨rfl, rfl⟩
    go_wp2
    go_ret
    exact ⟨ret_bool Hr.out.symm, Below.refl _ _⟩
  rw [hl] at Hl
  rcases bool_or (Tok.isDigit s[k]) with hd | hd
  · rw [hd] at Hd
    have Hr := kept (show r = true by rw [Hb.out, hd]; simp)
    clear hl hd
    go_enter Tryd.func30, Tryd.ntmps30
    go_wp2_with fail
    (with_reducible refine (Hl.out _).mono ?_); rintro e w1 ⟨rfl, rfl⟩
    go_wp2_with fail
    (with_reducible refine (Hd.out _).mono ?_); rintro e w1 ⟨rfl, rfl⟩
    go_wp2
    go_ret
    exact ⟨ret_bool Hr.out.symm, Below.refl _ _⟩
  rw [hd] at Hd
  by_cases h34 : s[k] = 34
  · have Hr := kept (show r = true by rw [Hb.out, h34]; simp)
    have hv : u = 34 := by rw [← huu, h34]; rfl
    subst hv
    clear hl hd h34
    go_enter Tryd.func30, Tryd.ntmps30
    go_wp2_with fail
    (with_reducible refine (Hl.out _).mono ?_); rintro e w1 ⟨rfl, rfl⟩
    go_wp2_with fail
    (with_reducible refine (Hd.out _).mono ?_); rintro e w1 ⟨rfl, rfl⟩
    go_wp2
    go_ret
    exact ⟨ret_bool Hr.out.symm, Below.refl _ _⟩
  have g34 : (u == 34) = false := by have := byte_neq s[k] 34 (by decide) h34; rwa [huu] at this
  by_cases h10 : s[k] = 10
  · have Hr := kept (show r = true by rw [Hb.out, h10]; simp)
    have hv : u = 10 := by rw [← huu, h10]; rfl
    subst hv
    clear hl hd h34 h10
    go_enter Tryd.func30, Tryd.ntmps30
    go_wp2_with fail
    (with_reducible refine (Hl.out _).mono ?_); rintro e w1 ⟨rfl, rfl⟩
    go_wp2_with fail
    (with_reducible refine (Hd.out _).mono ?_); rintro e w1 ⟨rfl, rfl⟩
    go_wp2
    go_ret
    exact ⟨ret_bool Hr.out.symm, Below.refl _ _⟩
  have g10 : (u == 10) = false := by have := byte_neq s[k] 10 (by decide) h10; rwa [huu] at this
  have hb2 : r = (Tok.signN (s.data.toList.drop k) != 0) := by
    rw [Hb.out, hl, hd, show (s[k] == 34) = false by simpa using h34, show (s[k] == 10) = false by simpa using h10]; simp
  have Hb2 := kept hb2
  have hsl := Tok.sign_le s k hk
  have hlen : ((s.data.toList.drop k).take (Tok.signN (s.data.toList.drop k))).length = Tok.signN (s.data.toList.drop k) := by
    rw [List.length_take, List.length_drop, show s.data.toList.length = s.size by simp]; omega
  generalize Tok.signN (s.data.toList.drop k) = n at *
  generalize (s.data.toList.drop k).take n = tx at *
  clear hl hd h34 h10 hb2 hsl
  by_cases hn : n = 0
  · have Hr := kept (show r = false by rw [Hb2.out, hn]; rfl)
    obtain rfl : tx = [] := List.eq_nil_of_length_eq_zero (by omega)
    clear hlen hn
    go_enter Tryd.func30, Tryd.ntmps30
    go_wp2_with fail
    (with_reducible refine (Hl.out _).mono ?_); rintro e w1 ⟨rfl, rfl⟩
    go_wp2_with fail
    (with_reducible refine (Hd.out _).mono ?_); rintro e w1 ⟨rfl, rfl⟩
    go_wp2_with fail
    (with_reducible refine (Hsg.out _).mono ?_); rintro e w1 ⟨rfl, b1⟩
    have B1 := kept b1; clear b1
    go_wp2
    go_ret
    exact ⟨ret_bool Hr.out.symm, B1.out⟩
  · have Hr := kept (show r = true by rw [Hb2.out]; simpa using hn)
    have hz1 : tx ≠ [] := by intro h; rw [h] at hlen; simp at hlen; omega
    have hz2 : tx.isEmpty = false := by cases tx <;> simp_all
    have hz3 : (tx != []) = true := by simpa using hz1
    have Hln := kept hlen
    clear hlen hn
    go_enter Tryd.func30, Tryd.ntmps30
    go_wp2_with fail
    (with_reducible refine (Hl.out _).mono ?_); rintro e w1 ⟨rfl, rfl⟩
    go_wp2_with fail
    (with_reducible refine (Hd.out _).mono ?_); rintro e w1 ⟨rfl, rfl⟩
    go_wp2_with fail
    (with_reducible refine (Hsg.out _).mono ?_); rintro e w1 ⟨rfl, b1⟩
    have B1 := kept b1; clear b1
    go_wp2
    go_ret
    exact ⟨ret_bool Hr.out.symm, B1.out⟩

/-- How Scan ends: a slice of the call's own with the tokens, and the error. -/
def ScanEnd (U : Tok.SR) (w : World) (e : Ending) (w' : World) : Prop := ∃ v, e = .returned (.tuple #[v, .agg #[.int .i64 U.e, .int .i64 U.at', .string ⟨#[]⟩]]) ∧ OwnsT w' w.heap.size v U.toks ∧ Below w.heap.size w w'
theorem scanEnd_err {U : Tok.SR} {w w' : World} {e : Int} {p : Int} (k : Nat) (h : U = ⟨[], e, k⟩) (hp : p = k) (hb : Below w.heap.size w w') :
    ScanEnd U w (.returned (.tuple #[.slice none 0 0, diagV e p])) w' := by subst h; subst hp; exact ⟨_, rfl, OwnsT.nil _ _, hb⟩
theorem scanEnd_ok {U : Tok.SR} {w w' : World} {v : Value} {l : List Tok.T} (h : U = ⟨l, 0, 0⟩) (ho : OwnsT w' w.heap.size v l) (hb : Below w.heap.size w w') :
    ScanEnd U w (.returned (.tuple #[v, diagV 0 0])) w' := by subst h; exact ⟨_, rfl, ho, hb⟩

set_option maxRecDepth 100000 in
set_option maxHeartbeats 8000000 in
theorem refScan_any (s : ByteArray) (hs : s.size ≤ 1000000) (w : World) :
    Calls Tryd.prog 12 #[.string s] w (ScanEnd (Tok.scan s.data.toList) w) := by
  obtain ⟨U, hU⟩ : ∃ U, U = Tok.scan s.data.toList := ⟨_, rfl⟩
  rw [← hU]
  by_cases hbig : 65536 < s.size
  · have HU := kept (show U = ⟨[], 3, 0⟩ by rw [hU]; unfold Tok.scan; rw [if_pos (by simpa using hbig)])
    have hbig' : (65536 : Int) < s.size := by omega
    have hD := kept (DiagAt.fresh w); have hB := kept (ball w (.cells #[.int .i64 0, .int .i64 0, .string ⟨#[]⟩] 26))
    clear hU
    go_enter Tryd.func12, Tryd.ntmps12
    go_wp2_with fail
    (with_reducible refine (refBad_any _ _ _).mono ?_); rintro e w9 ⟨rfl, b9⟩
    obtain ⟨c0, c1, c2, f0, f1, f2⟩ := (hD.out.below b9).facts
    have Hl9 := kept (bthen2 hB.out b9 (by simp)); clear b9
    go_wp2
    exact bodyPost_ret (v := .tuple #[.slice none 0 0, diagV 3 0]) (by simp [c0, c1, c2, results, Tryd.results12, go_sem, diagV]) rfl (scanEnd_err 0 HU.out rfl (bset3 Hl9.out (Nat.le_refl _) _ _ _))
  · have HU := kept (show U = Tok.scanF (s.size + 1) s.data.toList 0 [] by rw [hU]; unfold Tok.scan; rw [if_neg (by simpa using hbig)]; simp)
    clear hU
    go_enter Tryd.func12, Tryd.ntmps12
    go_wp2
    go_loopw [4, 5] (fun ov av wr => ∃ (j f : Nat) (acc : List Tok.T) (oa : Option Addr) (cap : Nat), j ≤ s.size ∧ av = .int .i64 j ∧ ov = .slice oa acc.length cap ∧ acc.length ≤ j ∧ acc.length ≤ 16384 ∧ s.size - j < f ∧ U = Tok.scanF f (s.data.toList.drop j) j acc ∧ OwnsT wr (w.heap.size + 1) (.slice oa acc.length cap) acc ∧ DiagAt wr w.heap.size ∧ Below w.heap.size w wr ∧ w.heap.size < wr.heap.size) (fun _ av _ => s.size - (intOf av).toNat)
    case atStart => exact ⟨0, s.size + 1, [], none, 0, by omega, rfl, rfl, by simp, by simp, by omega, HU.out, OwnsT.nil _ _, DiagAt.fresh w, ball w _, by simp⟩
    case round =>
      obtain ⟨j, f, acc, oa, cap, hj, rfl, rfl, hacc, hacc2, hf, hu, how, hdi, hbel, hsz⟩ := hrel
      have Hu := kept hu; have Hd := kept hdi; have Hl := kept hbel; have Hw := kept how
      clear hu hdi hbel how
      obtain ⟨f, rfl⟩ : ∃ f', f = f' + 1 := ⟨f - 1, by omega⟩
      have Hsk := kept (fun w => refSkip_any s j w hs hj)
      have hkf := Tok.skip_fit s j hj
      obtain ⟨k, hk⟩ : ∃ k, j + Tok.skipN (s.data.toList.drop j) = k := ⟨_, rfl⟩
      have Sbad := kept (Tok.scan_bad f s j k acc hk); have Slim := kept (Tok.scan_limit f s j k acc hk); have Send := kept (Tok.scan_end f s j k acc hk); have Sst := kept (Tok.scan_step f s j k acc hk)
      have hjk : j ≤ k := by omega
      rw [hk] at Hsk hkf
      clear hk
      by_cases hlim : acc.length = 16384
      · have hl16 : (16384 : Int) ≤ acc.length := by omega
        by_cases hlt : k < s.size
        · have hlt' : (k : Int) < s.size := by omega
          have hlt2 : ¬ (s.size : Int) ≤ k := by omega
          have Hbg := kept (fun w => refBegins_any s k w hs hlt)
          rcases bool_or (Tok.beginsB (s.data.toList.drop k)) with hb | hb
          · have Hx := kept (Hu.out.trans (Slim.out (fun _ => hb) hlim))
            rw [hb] at Hbg
            clear hb hlim
            go_wp2_with fail
            (with_reducible refine (Hsk.out _).mono ?_); rintro e w1 ⟨rfl, rfl⟩
            go_wp2_with fail
            (with_reducible refine (Hbg.out _).mono ?_); rintro e w8 ⟨rfl, b8⟩
            have Hd8 := kept (Hd.out.below b8); have Hl8 := kept (bthen2 Hl.out b8 (by omega)); have hsz8 := b8.size; clear b8
            go_wp2_with fail
            (with_reducible refine (refBad_any _ _ _).mono ?_); rintro e w9 ⟨rfl, b9⟩
            obtain ⟨c0, c1, c2, f0, f1, f2⟩ := (Hd8.out.below b9).facts
            have Hl9 := kept (bthen2 Hl8.out b9 (by omega)); clear b9
            go_wp2
            exact bodyPost_ret (v := .tuple #[.slice none 0 0, diagV 14 k]) (by simp [c0, c1, c2, results, Tryd.results12, go_sem, diagV]) rfl (scanEnd_err k Hx.out rfl (bset3 Hl9.out (Nat.le_refl _) _ _ _))
          · have Hx := kept (Hu.out.trans (Sbad.out hlt hb))
            have Hone := kept (fun w => refOne_any s hs k hlt k w)
            rw [Tok.one_begins 32 s k hlt hb] at Hone
            simp only [oneEnd, diagV, tokV] at Hone
            rw [show (k : Int) + ((0 : Nat) : Int) = k by omega] at Hone
            rw [hb] at Hbg
            clear hb hlim
            go_wp2_with fail
            (with_reducible refine (Hsk.out _).mono ?_); rintro e w1 ⟨rfl, rfl⟩
            go_wp2_with fail
            (with_reducible refine (Hbg.out _).mono ?_); rintro e w8 ⟨rfl, b8⟩
            have Hd8 := kept (Hd.out.below b8); have Hl8 := kept (bthen2 Hl.out b8 (by omega)); have hsz8 := b8.size; clear b8
            have Hd := Hd8; have Hl := Hl8
            go_wp2_with fail
            (with_reducible refine (Hone.out _).mono ?_); rintro e w9 ⟨rfl, b9⟩
            have Hd9 := kept (Hd8.out.below b9); have Hl9 := kept (bthen2 Hl8.out b9 (by omega)); have hsz9 := b9.size; clear b9
            obtain ⟨c0, c1, c2, f0, f1, f2⟩ := Hd9.out.facts
            have hsz2 : w.heap.size < w9.heap.size := by omega
            go_wp2
            go_region
            all_goals go_wp2
            all_goals exact bodyPost_ret (v := .tuple #[.slice none 0 0, diagV 2 k]) (by simp [c0, c1, c2, hsz2, results, Tryd.results12, go_sem, diagV]) rfl (scanEnd_err k Hx.out rfl (((bset3 Hl9.out (Nat.le_refl _) _ _ _).alloc (by simp; omega) _).alloc (by simp; omega) _).drew)
        · have hlt2 : (s.size : Int) ≤ k := by omega
          have Hx := kept (Hu.out.trans (Slim.out (fun h => absurd h hlt) hlim))
          clear hlim
          go_wp2_with fail
          (with_reducible refine (Hsk.out _).mono ?_); rintro e w1 ⟨rfl, rfl⟩
          go_wp2_with fail
          (with_reducible refine (refBad_any _ _ _).mono ?_); rintro e w9 ⟨rfl, b9⟩
          obtain ⟨c0, c1, c2, f0, f1, f2⟩ := (Hd.out.below b9).facts
          have Hl9 := kept (bthen2 Hl.out b9 (by omega)); clear b9
          go_wp2
          exact bodyPost_ret (v := .tuple #[.slice none 0 0, diagV 14 k]) (by simp [c0, c1, c2, results, Tryd.results12, go_sem, diagV]) rfl (scanEnd_err k Hx.out rfl (bset3 Hl9.out (Nat.le_refl _) _ _ _))
      · have hl16 : ¬ (16384 : Int) ≤ acc.length := by omega
        by_cases hlt : k < s.size
        · have hlt' : (k : Int) < s.size := by omega
          have hlt2 : ¬ (s.size : Int) ≤ k := by omega
          have Hone := kept (fun w => refOne_any s hs k hlt k w)
          rcases bool_or (Tok.beginsB (s.data.toList.drop k)) with hb | hb
          · have Hx := kept (Hu.out.trans (Sst.out hlt hb hlim))
            have Hfit := kept (fun n h => Tok.one_fit 32 s k n hlt h)
            have Hne := kept (Tok.oneW_ne (Tok.src 32) (Tok.src_ne 32) (s.data.toList.drop k))
            have hone : Tok.oneW (Tok.src 32) (s.data.toList.drop k) = Tok.one 32 (s.data.toList.drop k) := rfl
            rw [hone] at Hne
            simp only [hone] at Hfit
            obtain ⟨r, hr⟩ : ∃ r, Tok.one 32 (s.data.toList.drop k) = r := ⟨_, rfl⟩
            rw [hr] at Hx Hone Hne
            simp only [hr] at Hfit
            clear hb hone hr
            cases r with
            | ok n =>
              have hon := Hfit.out n rfl
              have hon1 : 1 ≤ n := hon.1
              have hon2 : k + n ≤ s.size := hon.2
              have Hx2 := kept (show U = Tok.scanF f (s.data.toList.drop (k + n)) (k + n) (acc ++ [(Tok.kindL (s.data.toList.drop k), Tok.textL (s.data.toList.drop k) n, k)]) from Hx.out)
              simp only [oneEnd, diagV, tokV] at Hone
              rw [show ((k + n : Nat) : Int) = (k : Int) + n by omega] at Hone
              generalize Tok.kindL (s.data.toList.drop k) = kd at *
              generalize Tok.textL (s.data.toList.drop k) n = tx at *
              clear hon
              go_wp2_with fail
              (with_reducible refine (Hsk.out _).mono ?_); rintro e w1 ⟨rfl, rfl⟩
              go_wp2_with fail
              (with_reducible refine (Hone.out _).mono ?_); rintro e w9 ⟨rfl, b9⟩
              have Hd9 := kept (Hd.out.below b9); have Hl9 := kept (bthen2 Hl.out b9 (by omega)); have hsz9 := b9.size; have Hw9 := kept (Hw.out.below b9 (Nat.le_refl _)); clear b9
              have hsz2 : w.heap.size < w9.heap.size := by omega
              go_wp2_with (at_builtin; refine wpList_append_tok rfl _ _ rfl w.heap.size (w.heap.size + 1) (.slice oa acc.length cap) acc rfl (Hw9.out.below ((((Below.refl _ _).alloc (Nat.le_refl _) _).alloc (by simp) _).alloc (by simp; omega) _) (Nat.le_refl _)) (((Hl9.out.alloc (by omega) _).alloc (by simp; omega) _).alloc (by simp; omega) _) (by omega) ⟨w9.heap.size + 1 + 1, 0, none⟩ 1 (kd, tx, k) rfl ?_ ?_ ?_ ?_ ?_ ?_)
              · omega
              · simp; omega
              · intro v' w' hown' hbel' hgr
                have Ho' := kept hown'; have Hl' := kept hbel'
                have Hd' := kept (show DiagAt w' w.heap.size from (hgr.block w.heap.size (by simp; omega) (by
                  intro he
                  have := (World.ownsRow.lt Hw9.out w.heap.size he.symm).1
                  omega)).trans (((Hd9.out.below (ball w9 _)).below (ball _ _)).below (ball _ _)))
                have hsz' : w.heap.size < w'.heap.size := by have := hgr.size; simp at this; omega
                clear hown' hbel' hgr
                go_wp2
                obtain ⟨a', cap', hv⟩ := Ho'.out.shape
                subst hv
                exact ⟨⟨k + n, f, acc ++ [(kd, tx, k)], a', cap', by omega, by go_num, rfl, by simp; omega, by simp; omega, by omega, Hx2.out, Ho'.out, Hd'.out, Hl'.out, hsz'⟩, by simp [intOf]; omega⟩
            | err e0 a0 =>
              have hne0 := Hne.out e0 a0 rfl
              have hne1 : (e0 == 0) = false := by simpa using hne0
              have hne2 : (e0 != 0) = true := by simpa using hne0
              have Hx2 := kept (show U = ⟨[], e0, k + a0⟩ from Hx.out)
              simp only [oneEnd, diagV, tokV] at Hone
              go_wp2_with fail
              (with_reducible refine (Hsk.out _).mono ?_); rintro e w1 ⟨rfl, rfl⟩
              go_wp2_with fail
              (with_reducible refine (Hone.out _).mono ?_); rintro e w9 ⟨rfl, b9⟩
              have Hd9 := kept (Hd.out.below b9); have Hl9 := kept (bthen2 Hl.out b9 (by omega)); have hsz9 := b9.size; clear b9
              obtain ⟨c0, c1, c2, f0, f1, f2⟩ := Hd9.out.facts
              have hsz2 : w.heap.size < w9.heap.size := by omega
              go_wp2
              go_region
              all_goals go_wp2
              all_goals exact bodyPost_ret (v := .tuple #[.slice none 0 0, diagV e0 (k + a0 : Int)]) (by simp [c0, c1, c2, hsz2, results, Tryd.results12, go_sem, diagV]) rfl (scanEnd_err (k + a0) Hx2.out (by omega) (((bset3 Hl9.out (Nat.le_refl _) _ _ _).alloc (by simp; omega) _).alloc (by simp; omega) _).drew)
            | trunc =>
              have Hx2 := kept (show U = ⟨[], 40, k⟩ from Hx.out)
              simp only [oneEnd, diagV, tokV] at Hone
              go_wp2_with fail
              (with_reducible refine (Hsk.out _).mono ?_); rintro e w1 ⟨rfl, rfl⟩
              go_wp2_with fail
              (with_reducible refine (Hone.out _).mono ?_); rintro e w9 ⟨rfl, b9⟩
              have Hd9 := kept (Hd.out.below b9); have Hl9 := kept (bthen2 Hl.out b9 (by omega)); have hsz9 := b9.size; clear b9
              obtain ⟨c0, c1, c2, f0, f1, f2⟩ := Hd9.out.facts
              have hsz2 : w.heap.size < w9.heap.size := by omega
              go_wp2
              go_region
              all_goals go_wp2
              all_goals exact bodyPost_ret (v := .tuple #[.slice none 0 0, diagV 40 k]) (by simp [c0, c1, c2, hsz2, results, Tryd.results12, go_sem, diagV]) rfl (scanEnd_err k Hx2.out rfl (((bset3 Hl9.out (Nat.le_refl _) _ _ _).alloc (by simp; omega) _).alloc (by simp; omega) _).drew)
          · have Hx := kept (Hu.out.trans (Sbad.out hlt hb))
            rw [Tok.one_begins 32 s k hlt hb] at Hone
            simp only [oneEnd, diagV, tokV] at Hone
            rw [show (k : Int) + ((0 : Nat) : Int) = k by omega] at Hone
            clear hb
            go_wp2_with fail
            (with_reducible refine (Hsk.out _).mono ?_); rintro e w1 ⟨rfl, rfl⟩
            go_wp2_with fail
            (with_reducible refine (Hone.out _).mono ?_); rintro e w9 ⟨rfl, b9⟩
            have Hd9 := kept (Hd.out.below b9); have Hl9 := kept (bthen2 Hl.out b9 (by omega)); have hsz9 := b9.size; clear b9
            obtain ⟨c0, c1, c2, f0, f1, f2⟩ := Hd9.out.facts
            have hsz2 : w.heap.size < w9.heap.size := by omega
            go_wp2
            go_region
            all_goals go_wp2
            all_goals exact bodyPost_ret (v := .tuple #[.slice none 0 0, diagV 2 k]) (by simp [c0, c1, c2, hsz2, results, Tryd.results12, go_sem, diagV]) rfl (scanEnd_err k Hx.out rfl (((bset3 Hl9.out (Nat.le_refl _) _ _ _).alloc (by simp; omega) _).alloc (by simp; omega) _).drew)
        · have hlt2 : (s.size : Int) ≤ k := by omega
          have Hx := kept (Hu.out.trans (Send.out hlt hlim))
          go_wp2_with fail
          (with_reducible refine (Hsk.out _).mono ?_); rintro e w1 ⟨rfl, rfl⟩
          go_wp2_with (at_builtin; refine wpList_append_tok rfl _ _ rfl w.heap.size (w.heap.size + 1) (.slice oa acc.length cap) acc rfl (Hw.out.below (ball wr _) (Nat.le_refl _)) (Hl.out.alloc (by omega) _) (by omega) ⟨wr.heap.size, 0, none⟩ 1 (6, [], k) rfl ?_ ?_ ?_ ?_ ?_ ?_)
          · omega
          · first | omega | (simp; omega)
          · intro v' w' hown' hbel' hgr
            have Ho' := kept hown'; have Hl' := kept hbel'
            have Hd' := kept (show DiagAt w' w.heap.size from (hgr.block w.heap.size (by simp; omega) (by
              intro he
              have := (World.ownsRow.lt Hw.out w.heap.size he.symm).1
              omega)).trans (Hd.out.below (ball wr _)))
            have hsz' : w.heap.size < w'.heap.size := by have := hgr.size; simp at this; omega
            clear hown' hbel' hgr
            obtain ⟨c0, c1, c2, f0, f1, f2⟩ := Hd'.out.facts
            go_wp2
            exact bodyPost_ret (v := .tuple #[v', diagV 0 0]) (by simp [c0, c1, c2, results, Tryd.results12, go_sem, diagV]) rfl (scanEnd_ok Hx.out ((Ho'.out.set3 (by omega) _ _ _).mono (by omega)) (bset3 Hl'.out (Nat.le_refl _) _ _ _))
end Go.Proofs.YtbpaeglmanjbfaaDoor
