import Derived.Test.YtkoebpoejafgnaaDoorRatTxt
import Derived.Test.YtkoebpoejafgnaaDoorPtOk
import Derived.Test.YtkoebpoejafgnaaDoorStep
/-
  Points as texts: both FormatPoint's.
-/
namespace Go.Proofs.YtkoebpoejafgnaaDoor
set_option linter.unusedVariables false
open Go.RowKit Num
open Classical in
noncomputable def rFormatPoint (bx : Bool) (nx : Nat) (fx : Nat → Int) (mx : Nat) (gx : Nat → Int) (by_ : Bool) (ny : Nat) (fy : Nat → Int) (my : Nat) (gy : Nat → Int) : ByteArray := if okR bx nx fx mx gx ∧ okR by_ ny fy my gy then ratT bx nx fx mx gx ++ ⟨#[44]⟩ ++ ratT by_ ny fy my gy else ByteArray.empty
theorem Bx.newAt2 {w : World} {g : Nat} {cs : Array Value} {t : TypeId} (hg : g = w.heap.size) : Bx (w.alloc (.cells cs t)) g cs := hg ▸ Bx.new w cs t
theorem comma_size2 (a : ByteArray) (h : a.size ≤ 3602) : (a ++ ⟨#[44]⟩).size ≤ 3603 := by
  rw [ByteArray.size_append]
  have : (⟨#[44]⟩ : ByteArray).size = 1 := rfl
  omega
theorem vp_yes {bx by_ : Bool} {nx mx ny my : Nat} {fx gx fy gy : Nat → Int} (h1 : okR bx nx fx mx gx) (h2 : okR by_ ny fy my gy) : rIsValidPoint bx nx fx mx gx by_ ny fy my gy = true := by
  simp [rIsValidPoint, rRatOk_yes h1, rRatOk_yes h2]
theorem vp_no {bx by_ : Bool} {nx mx ny my : Nat} {fx gx fy gy : Nat → Int} (h : ¬ (okR bx nx fx mx gx ∧ okR by_ ny fy my gy)) : rIsValidPoint bx nx fx mx gx by_ ny fy my gy = false := by
  by_cases h1 : okR bx nx fx mx gx
  · have h2 : ¬ okR by_ ny fy my gy := fun k => h ⟨h1, k⟩
    simp [rIsValidPoint, rRatOk_no h2]
  · simp [rIsValidPoint, rRatOk_no h1]
theorem spec_FormatRat_y (b : Bool) (A : Option Addr) (n c lo : Nat) (f : Nat → Int) (D : Option Addr) (m e u : Nat) (g : Nat → Int) (w : World) (h : Row w lo A n c f) (k : Row w u D m e g) (hok : okR b n f m g) :
    Calls Tryd.prog 58 #[.agg #[.bool b, .slice A n c, .slice D m e]] w fun e' w' => e' = .returned (.string (ratT b n f m g)) ∧ Old w w' := spec_FormatRat_yes b A n c lo f D m e u g w h k hok
set_option maxRecDepth 100000 in
set_option maxHeartbeats 8000000 in
theorem spec_FormatPoint (bx : Bool) (Ax : Option Addr) (nx cx lx : Nat) (fx : Nat → Int) (Dx : Option Addr) (mx ex ux : Nat) (gx : Nat → Int) (by_ : Bool) (Ay : Option Addr) (ny cy ly : Nat) (fy : Nat → Int) (Dy : Option Addr) (my ey uy : Nat) (gy : Nat → Int) (w : World) (hx : Row w lx Ax nx cx fx) (kx : Row w ux Dx mx ex gx) (hy : Row w ly Ay ny cy fy) (ky : Row w uy Dy my ey gy) (hnx : nx ≤ 1048576) (hmx : mx ≤ 1048576) (hny : ny ≤ 1048576) (hmy : my ≤ 1048576) :
    Calls Tryd.prog 16 #[.agg #[.bool bx, .slice Ax nx cx, .slice Dx mx ex, .bool by_, .slice Ay ny cy, .slice Dy my ey]] w fun e' w' => e' = .returned (.string (rFormatPoint bx nx fx mx gx by_ ny fy my gy)) ∧ Old w w' := by
  by_cases hok : okR bx nx fx mx gx ∧ okR by_ ny fy my gy
  · have HK : Hid (rIsValidPoint bx nx fx mx gx by_ ny fy my gy = true) := Lib.hid (vp_yes hok.1 hok.2)
    have HR : Hid (rFormatPoint bx nx fx mx gx by_ ny fy my gy = ratT bx nx fx mx gx ++ ⟨#[44]⟩ ++ ratT by_ ny fy my gy) := Lib.hid (by unfold rFormatPoint; rw [if_pos hok])
    have HX := Lib.hid hok.1
    have HY := Lib.hid hok.2
    clear hok
    go_enter Tryd.func16, Tryd.ntmps16
    go_wp2_with fail
    refine (spec_IsValidPoint bx Ax nx cx lx fx Dx mx ex ux gx by_ Ay ny cy ly fy Dy my ey uy gy _ (hx.below (B := w.heap.size) oldA (Nat.le_refl _)) (kx.below (B := w.heap.size) oldA (Nat.le_refl _)) (hy.below (B := w.heap.size) oldA (Nat.le_refl _)) (ky.below (B := w.heap.size) oldA (Nat.le_refl _)) hnx hmx hny hmy).mono ?_
    rintro e' w1 ⟨rfl, o1⟩
    rw [HK.out]
    have B1 : Bx w1 w.heap.size #[.bool bx, .slice Ax nx cx, .slice Dx mx ex, .bool by_, .slice Ay ny cy, .slice Dy my ey] := Bx.old (Bx.new _ _ _) o1
    replace o1 : Old w w1 := Below.trans (b := _) oldA (Below.mono o1 leA)
    obtain ⟨gb, hgd⟩ : ∃ gb, gb = w.heap.size := ⟨_, rfl⟩
    rw [← hgd] at B1
    have HQ0 : Hid (w1.cell? ⟨gb, 0, none⟩ = some (.bool bx)) := Lib.hid (B1.cell 0 rfl)
    have HQ1 : Hid (w1.cell? ⟨gb, 1, none⟩ = some (.slice Ax nx cx)) := Lib.hid (B1.cell 1 rfl)
    have HQ2 : Hid (w1.cell? ⟨gb, 2, none⟩ = some (.slice Dx mx ex)) := Lib.hid (B1.cell 2 rfl)
    have HQ3 : Hid (w1.cell? ⟨gb, 3, none⟩ = some (.bool by_)) := Lib.hid (B1.cell 3 rfl)
    have HQ4 : Hid (w1.cell? ⟨gb, 4, none⟩ = some (.slice Ay ny cy)) := Lib.hid (B1.cell 4 rfl)
    have HQ5 : Hid (w1.cell? ⟨gb, 5, none⟩ = some (.slice Dy my ey)) := Lib.hid (B1.cell 5 rfl)
    have hg : gb < w1.heap.size := B1.lt
    have q0 := HQ0.out
    have q1 := HQ1.out
    have q2 := HQ2.out
    have q3 := HQ3.out
    have q4 := HQ4.out
    have q5 := HQ5.out
    rw [← hgd]
    clear B1 hgd
    have h1x := hx.below o1 (Nat.le_refl _)
    have k1x := kx.below o1 (Nat.le_refl _)
    have h1y := hy.below o1 (Nat.le_refl _)
    have k1y := ky.below o1 (Nat.le_refl _)
    skip
    have sb := ratT_size bx nx fx mx gx
    have sn := ratT_size by_ ny fy my gy
    have sc := comma_size2 (ratT bx nx fx mx gx) sb
    have sn1 : ¬ 9223372036854775807 < (ratT bx nx fx mx gx).size + 1 := by omega
    have sn2 : ¬ 9223372036854775807 < (ratT bx nx fx mx gx ++ ⟨#[44]⟩).size + (ratT by_ ny fy my gy).size := by omega
    have sn3 : ¬ 9223372036854775807 < (ratT bx nx fx mx gx).size + 1 + (ratT by_ ny fy my gy).size := by omega
    clear hx kx hy ky
    have O := Old.refl w1
    go_upto_region 3 with fail
    go_cut [2] (fun sl wx => sl = .string (ratT bx nx fx mx gx ++ ⟨#[44]⟩ ++ ratT by_ ny fy my gy) ∧ Old w1 wx)
    case first =>
      go_region_held3 (fun w' => w'.cell? ⟨gb, 0, none⟩ = some (.bool bx) ∧ w'.cell? ⟨gb, 1, none⟩ = some (.slice Ax nx cx) ∧ w'.cell? ⟨gb, 2, none⟩ = some (.slice Dx mx ex) ∧ w'.cell? ⟨gb, 3, none⟩ = some (.bool by_) ∧ w'.cell? ⟨gb, 4, none⟩ = some (.slice Ay ny cy) ∧ w'.cell? ⟨gb, 5, none⟩ = some (.slice Dy my ey)) (go_keep)
        (first
        | (go_at_call 58; (with_reducible refine (spec_FormatRat_y bx Ax nx cx lx fx Dx mx ex ux gx _ (h1x.below (B := w1.heap.size) (Below.trans (b := _) O oldA) (Nat.le_refl _)) (k1x.below (B := w1.heap.size) (Below.trans (b := _) O oldA) (Nat.le_refl _)) HX.out).mono ?_); rintro e' wx ⟨rfl, ox⟩; have zO := O.size; replace O : Old w1 wx := Below.trans (b := _) (Below.trans (b := _) O oldA) (Below.mono ox leA); have q0 := (O.cell (p := ⟨gb, 0, none⟩) hg).trans HQ0.out; have q1 := (O.cell (p := ⟨gb, 1, none⟩) hg).trans HQ1.out; have q2 := (O.cell (p := ⟨gb, 2, none⟩) hg).trans HQ2.out; have q3 := (O.cell (p := ⟨gb, 3, none⟩) hg).trans HQ3.out; have q4 := (O.cell (p := ⟨gb, 4, none⟩) hg).trans HQ4.out; have q5 := (O.cell (p := ⟨gb, 5, none⟩) hg).trans HQ5.out; have zx := O.size)
        | (go_at_call 58; (with_reducible refine (spec_FormatRat_y by_ Ay ny cy ly fy Dy my ey uy gy _ (h1y.below (B := w1.heap.size) (Below.trans (b := _) O oldA) (Nat.le_refl _)) (k1y.below (B := w1.heap.size) (Below.trans (b := _) O oldA) (Nat.le_refl _)) HY.out).mono ?_); rintro e' wx ⟨rfl, ox⟩; have zO := O.size; replace O : Old w1 wx := Below.trans (b := _) (Below.trans (b := _) O oldA) (Below.mono ox leA); have q0 := (O.cell (p := ⟨gb, 0, none⟩) hg).trans HQ0.out; have q1 := (O.cell (p := ⟨gb, 1, none⟩) hg).trans HQ1.out; have q2 := (O.cell (p := ⟨gb, 2, none⟩) hg).trans HQ2.out; have q3 := (O.cell (p := ⟨gb, 3, none⟩) hg).trans HQ3.out; have q4 := (O.cell (p := ⟨gb, 4, none⟩) hg).trans HQ4.out; have q5 := (O.cell (p := ⟨gb, 5, none⟩) hg).trans HQ5.out; have zx := O.size)
        | fail)
      all_goals (go_wp2_with fail; go_meet; exact ⟨rfl, Below.trans (b := _) O oldA⟩)
    case rest =>
    obtain ⟨rfl, o6⟩ := hcut
    go_wp2
    go_ret
    exact ⟨congrArg (fun s => Ending.returned (.string s)) HR.out.symm, Old.trans o1 o6⟩
  · have HK : Hid (rIsValidPoint bx nx fx mx gx by_ ny fy my gy = false) := Lib.hid (vp_no hok)
    have HR : Hid (rFormatPoint bx nx fx mx gx by_ ny fy my gy = ByteArray.empty) := Lib.hid (by unfold rFormatPoint; rw [if_neg hok])
    clear hok
    go_enter Tryd.func16, Tryd.ntmps16
    go_wp2_with fail
    refine (spec_IsValidPoint bx Ax nx cx lx fx Dx mx ex ux gx by_ Ay ny cy ly fy Dy my ey uy gy _ (hx.below (B := w.heap.size) oldA (Nat.le_refl _)) (kx.below (B := w.heap.size) oldA (Nat.le_refl _)) (hy.below (B := w.heap.size) oldA (Nat.le_refl _)) (ky.below (B := w.heap.size) oldA (Nat.le_refl _)) hnx hmx hny hmy).mono ?_
    rintro e' w1 ⟨rfl, o1⟩
    rw [HK.out]
    have B1 : Bx w1 w.heap.size #[.bool bx, .slice Ax nx cx, .slice Dx mx ex, .bool by_, .slice Ay ny cy, .slice Dy my ey] := Bx.old (Bx.new _ _ _) o1
    replace o1 : Old w w1 := Below.trans (b := _) oldA (Below.mono o1 leA)
    go_wp2
    go_ret
    exact ⟨by rw [HR.out]; rfl, o1⟩
set_option maxRecDepth 100000 in
set_option maxHeartbeats 8000000 in
theorem impl_FormatPoint (bx : Bool) (Ax : Option Addr) (nx cx lx : Nat) (fx : Nat → Int) (Dx : Option Addr) (mx ex ux : Nat) (gx : Nat → Int) (by_ : Bool) (Ay : Option Addr) (ny cy ly : Nat) (fy : Nat → Int) (Dy : Option Addr) (my ey uy : Nat) (gy : Nat → Int) (w : World) (hx : Row w lx Ax nx cx fx) (kx : Row w ux Dx mx ex gx) (hy : Row w ly Ay ny cy fy) (ky : Row w uy Dy my ey gy) (hnx : nx ≤ 1048576) (hmx : mx ≤ 1048576) (hny : ny ≤ 1048576) (hmy : my ≤ 1048576) (K : KT w) :
    Calls Tryd.prog 18 #[.agg #[.bool bx, .slice Ax nx cx, .slice Dx mx ex, .bool by_, .slice Ay ny cy, .slice Dy my ey]] w fun e' w' => e' = .returned (.string (rFormatPoint bx nx fx mx gx by_ ny fy my gy)) ∧ Old w w' := by
  by_cases hok : okR bx nx fx mx gx ∧ okR by_ ny fy my gy
  · have HK : Hid (rIsValidPoint bx nx fx mx gx by_ ny fy my gy = true) := Lib.hid (vp_yes hok.1 hok.2)
    have HR : Hid (rFormatPoint bx nx fx mx gx by_ ny fy my gy = ratT bx nx fx mx gx ++ ⟨#[44]⟩ ++ ratT by_ ny fy my gy) := Lib.hid (by unfold rFormatPoint; rw [if_pos hok])
    have HX := Lib.hid hok.1
    have HY := Lib.hid hok.2
    clear hok
    go_enter Tryd.func18, Tryd.ntmps18
    go_wp2_with fail
    refine (arePoints_1 bx Ax nx cx lx fx Dx mx ex ux gx by_ Ay ny cy ly fy Dy my ey uy gy _ _ (by first | exact Bx.new _ _ _ | exact Bx.newN _ _ _ _ | (refine Bx.newAt2 ?_; simp)) (hx.below (B := w.heap.size) oldA (Nat.le_refl _)) (kx.below (B := w.heap.size) oldA (Nat.le_refl _)) (hy.below (B := w.heap.size) oldA (Nat.le_refl _)) (ky.below (B := w.heap.size) oldA (Nat.le_refl _)) hnx hmx hny hmy).mono ?_
    rintro e' w1 ⟨rfl, o1⟩
    rw [HK.out]
    have B1 : Bx w1 w.heap.size #[.bool bx, .slice Ax nx cx, .slice Dx mx ex, .bool by_, .slice Ay ny cy, .slice Dy my ey] := Bx.old (Bx.alloc (Bx.new _ _ _) _) o1
    replace o1 : Old w w1 := Below.trans (b := _) oldA (Below.mono o1 leA)
    obtain ⟨gb, hgd⟩ : ∃ gb, gb = w.heap.size := ⟨_, rfl⟩
    rw [← hgd] at B1
    have HQ0 : Hid (w1.cell? ⟨gb, 0, none⟩ = some (.bool bx)) := Lib.hid (B1.cell 0 rfl)
    have HQ1 : Hid (w1.cell? ⟨gb, 1, none⟩ = some (.slice Ax nx cx)) := Lib.hid (B1.cell 1 rfl)
    have HQ2 : Hid (w1.cell? ⟨gb, 2, none⟩ = some (.slice Dx mx ex)) := Lib.hid (B1.cell 2 rfl)
    have HQ3 : Hid (w1.cell? ⟨gb, 3, none⟩ = some (.bool by_)) := Lib.hid (B1.cell 3 rfl)
    have HQ4 : Hid (w1.cell? ⟨gb, 4, none⟩ = some (.slice Ay ny cy)) := Lib.hid (B1.cell 4 rfl)
    have HQ5 : Hid (w1.cell? ⟨gb, 5, none⟩ = some (.slice Dy my ey)) := Lib.hid (B1.cell 5 rfl)
    have hg : gb < w1.heap.size := B1.lt
    have q0 := HQ0.out
    have q1 := HQ1.out
    have q2 := HQ2.out
    have q3 := HQ3.out
    have q4 := HQ4.out
    have q5 := HQ5.out
    rw [← hgd]
    clear B1 hgd
    have h1x := hx.below o1 (Nat.le_refl _)
    have k1x := kx.below o1 (Nat.le_refl _)
    have h1y := hy.below o1 (Nat.le_refl _)
    have k1y := ky.below o1 (Nat.le_refl _)
    have K1 := K.old o1
    have sb := ratT_size bx nx fx mx gx
    have sn := ratT_size by_ ny fy my gy
    have sc := comma_size2 (ratT bx nx fx mx gx) sb
    have sn1 : ¬ 9223372036854775807 < (ratT bx nx fx mx gx).size + 1 := by omega
    have sn2 : ¬ 9223372036854775807 < (ratT bx nx fx mx gx ++ ⟨#[44]⟩).size + (ratT by_ ny fy my gy).size := by omega
    have sn3 : ¬ 9223372036854775807 < (ratT bx nx fx mx gx).size + 1 + (ratT by_ ny fy my gy).size := by omega
    clear hx kx hy ky
    have O := Old.refl w1
    go_upto_region 3 with fail
    go_cut [2] (fun sl wx => sl = .string (ratT bx nx fx mx gx ++ ⟨#[44]⟩ ++ ratT by_ ny fy my gy) ∧ Old w1 wx)
    case first =>
      go_region_held3 (fun w' => w'.cell? ⟨gb, 0, none⟩ = some (.bool bx) ∧ w'.cell? ⟨gb, 1, none⟩ = some (.slice Ax nx cx) ∧ w'.cell? ⟨gb, 2, none⟩ = some (.slice Dx mx ex) ∧ w'.cell? ⟨gb, 3, none⟩ = some (.bool by_) ∧ w'.cell? ⟨gb, 4, none⟩ = some (.slice Ay ny cy) ∧ w'.cell? ⟨gb, 5, none⟩ = some (.slice Dy my ey)) (go_keep)
        (first
        | (go_at_call 69; (with_reducible refine (formatRat_any bx Ax nx cx lx fx Dx mx ex ux gx _ (h1x.below (B := w1.heap.size) (Below.trans (b := _) O oldA) (Nat.le_refl _)) (k1x.below (B := w1.heap.size) (Below.trans (b := _) O oldA) (Nat.le_refl _)) HX.out (K1.old (Below.trans (b := _) O oldA))).mono ?_); rintro e' wx ⟨rfl, ox⟩; have zO := O.size; replace O : Old w1 wx := Below.trans (b := _) (Below.trans (b := _) O oldA) (Below.mono ox leA); have q0 := (O.cell (p := ⟨gb, 0, none⟩) hg).trans HQ0.out; have q1 := (O.cell (p := ⟨gb, 1, none⟩) hg).trans HQ1.out; have q2 := (O.cell (p := ⟨gb, 2, none⟩) hg).trans HQ2.out; have q3 := (O.cell (p := ⟨gb, 3, none⟩) hg).trans HQ3.out; have q4 := (O.cell (p := ⟨gb, 4, none⟩) hg).trans HQ4.out; have q5 := (O.cell (p := ⟨gb, 5, none⟩) hg).trans HQ5.out; have zx := O.size)
        | (go_at_call 69; (with_reducible refine (formatRat_any by_ Ay ny cy ly fy Dy my ey uy gy _ (h1y.below (B := w1.heap.size) (Below.trans (b := _) O oldA) (Nat.le_refl _)) (k1y.below (B := w1.heap.size) (Below.trans (b := _) O oldA) (Nat.le_refl _)) HY.out (K1.old (Below.trans (b := _) O oldA))).mono ?_); rintro e' wx ⟨rfl, ox⟩; have zO := O.size; replace O : Old w1 wx := Below.trans (b := _) (Below.trans (b := _) O oldA) (Below.mono ox leA); have q0 := (O.cell (p := ⟨gb, 0, none⟩) hg).trans HQ0.out; have q1 := (O.cell (p := ⟨gb, 1, none⟩) hg).trans HQ1.out; have q2 := (O.cell (p := ⟨gb, 2, none⟩) hg).trans HQ2.out; have q3 := (O.cell (p := ⟨gb, 3, none⟩) hg).trans HQ3.out; have q4 := (O.cell (p := ⟨gb, 4, none⟩) hg).trans HQ4.out; have q5 := (O.cell (p := ⟨gb, 5, none⟩) hg).trans HQ5.out; have zx := O.size)
        | fail)
      all_goals (go_wp2_with fail; go_meet; exact ⟨rfl, Below.trans (b := _) O oldA⟩)
    case rest =>
    obtain ⟨rfl, o6⟩ := hcut
    go_wp2
    go_ret
    exact ⟨congrArg (fun s => Ending.returned (.string s)) HR.out.symm, Old.trans o1 o6⟩
  · have HK : Hid (rIsValidPoint bx nx fx mx gx by_ ny fy my gy = false) := Lib.hid (vp_no hok)
    have HR : Hid (rFormatPoint bx nx fx mx gx by_ ny fy my gy = ByteArray.empty) := Lib.hid (by unfold rFormatPoint; rw [if_neg hok])
    clear hok
    go_enter Tryd.func18, Tryd.ntmps18
    go_wp2_with fail
    refine (arePoints_1 bx Ax nx cx lx fx Dx mx ex ux gx by_ Ay ny cy ly fy Dy my ey uy gy _ _ (by first | exact Bx.new _ _ _ | exact Bx.newN _ _ _ _ | (refine Bx.newAt2 ?_; simp)) (hx.below (B := w.heap.size) oldA (Nat.le_refl _)) (kx.below (B := w.heap.size) oldA (Nat.le_refl _)) (hy.below (B := w.heap.size) oldA (Nat.le_refl _)) (ky.below (B := w.heap.size) oldA (Nat.le_refl _)) hnx hmx hny hmy).mono ?_
    rintro e' w1 ⟨rfl, o1⟩
    rw [HK.out]
    have B1 : Bx w1 w.heap.size #[.bool bx, .slice Ax nx cx, .slice Dx mx ex, .bool by_, .slice Ay ny cy, .slice Dy my ey] := Bx.old (Bx.alloc (Bx.new _ _ _) _) o1
    replace o1 : Old w w1 := Below.trans (b := _) oldA (Below.mono o1 leA)
    go_wp2
    go_ret
    exact ⟨by rw [HR.out]; rfl, o1⟩
end Go.Proofs.YtkoebpoejafgnaaDoor
