import Derived.BigQuiet
import Derived.ChangeOld
import Derived.Deep.DeepCutAuto
import Derived.Deep.DrawnRows
import Derived.Deep.OwnRows
import Derived.Deep.QuietTactic
import Derived.Deep.RegionHeld3
import Derived.Deep.RegionWith
import Derived.Deep.Upon
import Derived.IntWalk
import Derived.JoinedOf
import Derived.KernelRfl
import Derived.Laws.BitsLemmas
import Derived.Laws.FloatArith
import Derived.Laws.IdiomStrings
import Derived.Lib.AppendIntMem
import Derived.Lib.AppendStr
import Derived.Lib.AtoiAllCases
import Derived.Lib.AtoiErrMem
import Derived.Lib.Bytealg
import Derived.Lib.ConvBytes
import Derived.Lib.Hide
import Derived.Lib.IndexLaws
import Derived.Lib.ItoaLen
import Derived.Lib.ItoaNum
import Derived.Lib.Join
import Derived.Lib.SmallJoins
import Derived.Lib.Strings
import Derived.Lib.UnsafeStr
import Derived.Maps.AppendAt
import Derived.OpenShut
import Derived.ProofKit
import Derived.ShutString
import Derived.Test.YtgchbbjhdeobpaaGreatDoorRows
import Derived.Test.YtgchbbjhdeobpaaGreatDoorShelf
import Derived.WalkKit
import Derived.WalkLawsBesides
import Derived.WalkSpells
import Ieee.Arith
import Derived.Test.YtgchbbjhdeobpaaGreatDoorW1
import Derived.Test.YtgchbbjhdeobpaaGreatDoorW2
import Derived.Test.YtgchbbjhdeobpaaGreatDoorW3
import Derived.Test.YtgchbbjhdeobpaaGreatDoorW4
import Derived.Test.YtgchbbjhdeobpaaGreatDoorW5
import Derived.Test.YtgchbbjhdeobpaaGreatDoorW6
import Derived.Test.YtgchbbjhdeobpaaGreatDoorW7
import Derived.Test.YtgchbbjhdeobpaaGreatDoorW8
import Derived.Test.YtgchbbjhdeobpaaGreatDoorW9
import Derived.Test.YtgchbbjhdeobpaaGreatDoorW10
import Derived.Test.YtgchbbjhdeobpaaGreatDoorW11
import Derived.Test.YtgchbbjhdeobpaaGreatDoorW12
import Derived.Test.YtgchbbjhdeobpaaGreatDoorW13
import Derived.Test.YtgchbbjhdeobpaaGreatDoorW14
import Derived.Test.YtgchbbjhdeobpaaGreatDoorW15
import Derived.Test.YtgchbbjhdeobpaaGreatDoorW16
import Derived.Test.YtgchbbjhdeobpaaGreatDoorW17
import Derived.Test.YtgchbbjhdeobpaaGreatDoorW18
import Derived.Test.YtgchbbjhdeobpaaGreatDoorW19
import Derived.Test.YtgchbbjhdeobpaaGreatDoorW20
import Derived.Test.YtgchbbjhdeobpaaGreatDoorW21
import Derived.Test.YtgchbbjhdeobpaaGreatDoorW22
import Derived.Test.YtgchbbjhdeobpaaGreatDoorW23
import Derived.Test.YtgchbbjhdeobpaaGreatDoorW24
/- What the claim's proof reaches of: Rats. -/
namespace Go.Proofs.YtgchbbjhdeobpaaGreatDoor
set_option linter.unusedVariables false
open Go.RowKit Num
set_option maxRecDepth 100000 in
set_option maxHeartbeats 8000000 in
theorem walkRats (A : Option Addr) (n c : Nat) (w : World) (hb : n ≤ 1048576 → BRd w w.heap.size A n c) (hn : n ≤ 9223372036854775807) (KT_ : KT w) :
    Calls Tryz.prog 4 #[.slice A n c] w fun e w' => e = .returned (.bool true) ∧ Old w w' := by
  by_cases hl : n ≤ 1048576
  case neg =>
    go_enter Tryz.func4, Tryz.ntmps4
    go_wp2
    go_ret
    exact ⟨rfl, oldA⟩
  have HB := hb hl
  clear hb
  have O : Old w w := oldB
  have ze : w.heap.size + 0 ≤ w.heap.size := (by simp)
  go_enter Tryz.func4, Tryz.ntmps4
  go_upto_region 3 with fail
  go_cut [3] (fun sl  wx => ∃ (g : Nat) (zr : Int) (dr : Nat) (A1 D1 : Option Addr) (c1 e1 : Nat), sl = .pointer (some ⟨g, 0, none⟩) ∧ w.heap.size ≤ g ∧ Bx wx g #[.bool (sgnZ zr), .slice A1 (len (magZ zr)) c1, .slice D1 (len dr) e1] ∧ Row wx w.heap.size A1 (len (magZ zr)) c1 (digI (magZ zr)) ∧ Row wx w.heap.size D1 (len dr) e1 (digI dr) ∧ ((zr, dr) : Fr) ∈ few ∧ Old w wx)
  case first =>
    have OP : Old w w := Old.refl _
    go_wp2_with fail
    refine callsNamed ?_
    intro p1 hp
    have O' : Old w p1 := (by rw [hp]; exact Below.trans (b := w) O oldB)
    replace OP : Old w p1 := (by rw [hp]; exact Below.trans (b := w) OP oldB)
    have zp1 : w.heap.size ≤ p1.heap.size := (by rw [hp]; exact leA)
    clear hp O
    have O := O'
    clear O'
    refine (makeRat_0 A n c _ ((HB.old O).lift O.size)).mono ?_
    rintro e w1 ⟨xr, mr, hxr, hmr, ⟨zr, dr, A1, c1, D1, e1, hvr, rfl, r1, s1, ap1⟩, o1⟩
    replace O := Old.trans O o1
    replace OP := Old.trans OP o1
    have zw1 := o1.size
    replace r1 := Row.more (lo' := p1.heap.size) r1 leA
    replace s1 := Row.more (lo' := p1.heap.size) s1 leA
    have lim_r1 := Row.lim r1
    have lim_s1 := Row.lim s1
    go_wp2_with fail
    go_meet
    exact ⟨_, zr, dr, A1, D1, c1, e1, rfl, leA, (by first | exact Bx.new _ _ _ | exact Bx.put3 (Bx.new _ _ _) _ _ _ | exact Bx.put3 (Bx.drew (Bx.new _ _ _)) _ _ _), (by refine Row.more (lo := p1.heap.size) ?_ leA; first | exact (Row.far_set (Row.far_set (Row.far_set r1 (by first | (simp <;> done) | (simp; omega) | omega) _) (by first | (simp <;> done) | (simp; omega) | omega) _) (by first | (simp <;> done) | (simp; omega) | omega) _) | exact Row.below (B := w1.heap.size) r1 oldB (Nat.le_refl _)), (by refine Row.more (lo := p1.heap.size) ?_ leA; first | exact (Row.far_set (Row.far_set (Row.far_set s1 (by first | (simp <;> done) | (simp; omega) | omega) _) (by first | (simp <;> done) | (simp; omega) | omega) _) (by first | (simp <;> done) | (simp; omega) | omega) _) | exact Row.below (B := w1.heap.size) s1 oldB (Nat.le_refl _)), few_of hxr hmr hvr, Below.trans (b := w1) OP oldB⟩
  case rest =>
  obtain ⟨g_b1, zr, dr, A1, D1, c1, e1, rfl, hg_b1, B_b1, r1, s1, hfr, o2⟩ := hcut
  obtain ⟨w2, hw⟩ : ∃ x, x = wc := ⟨_, rfl⟩
  subst hw
  replace O := Old.trans O o2
  have zw2 := o2.size
  have lt_b1 := B_b1.lt
  have lim_r1 := Row.lim r1
  have lim_s1 := Row.lim s1
  obtain ⟨q_b1_0, q_b1_1, q_b1_2, f_b1_0, f_b1_1, f_b1_2, q_b1⟩ := B_b1.all3
  go_upto_region 4 with fail
  go_cut [4] (fun sl  wx => ∃ (g : Nat) (zs : Int) (ds : Nat) (A2 D2 : Option Addr) (c2 e2 : Nat), sl = .pointer (some ⟨g, 0, none⟩) ∧ w2.heap.size ≤ g ∧ Bx wx g #[.bool (sgnZ zs), .slice A2 (len (magZ zs)) c2, .slice D2 (len ds) e2] ∧ Row wx w2.heap.size A2 (len (magZ zs)) c2 (digI (magZ zs)) ∧ Row wx w2.heap.size D2 (len ds) e2 (digI ds) ∧ ((zs, ds) : Fr) ∈ few ∧ Old w2 wx)
  case first =>
    have OP : Old w2 w2 := Old.refl _
    go_wp2_with fail
    refine callsNamed ?_
    intro p3 hp
    clear q_b1_0 q_b1_1 q_b1_2 f_b1_0 f_b1_1 f_b1_2 q_b1
    have O' : Old w p3 := (by rw [hp]; exact Below.trans (b := w2) O oldB)
    replace B_b1 : Bx p3 (g_b1) #[.bool (sgnZ zr), .slice A1 (len (magZ zr)) c1, .slice D1 (len dr) e1] := (bxK B_b1 hp)
    replace r1 := rowK r1 hp
    replace s1 := rowK s1 hp
    replace OP : Old w2 p3 := (by rw [hp]; exact Below.trans (b := w2) OP oldB)
    have zp3 : w2.heap.size ≤ p3.heap.size := (by rw [hp]; exact leA)
    clear hp O
    have O := O'
    clear O'
    refine (makeRat_1 A n c _ ((HB.old O).lift O.size)).mono ?_
    rintro e w3 ⟨xs, ms, hxs, hms, ⟨zs, ds, A2, c2, D2, e2, hvs, rfl, r2, s2, ap2⟩, o3⟩
    replace B_b1 := Bx.old B_b1 o3
    replace r1 := Row.below r1 o3 (Nat.le_refl _)
    replace s1 := Row.below s1 o3 (Nat.le_refl _)
    replace O := Old.trans O o3
    replace OP := Old.trans OP o3
    have zw3 := o3.size
    replace r2 := Row.more (lo' := p3.heap.size) r2 leA
    replace s2 := Row.more (lo' := p3.heap.size) s2 leA
    have lim_r2 := Row.lim r2
    have lim_s2 := Row.lim s2
    obtain ⟨q_b1_0, q_b1_1, q_b1_2, f_b1_0, f_b1_1, f_b1_2, q_b1⟩ := B_b1.all3
    go_wp2_with fail
    go_meet
    exact ⟨_, zs, ds, A2, D2, c2, e2, rfl, leA, (by first | exact Bx.new _ _ _ | exact Bx.put3 (Bx.new _ _ _) _ _ _ | exact Bx.put3 (Bx.drew (Bx.new _ _ _)) _ _ _), (by refine Row.more (lo := p3.heap.size) ?_ leA; first | exact (Row.far_set (Row.far_set (Row.far_set r2 (by first | (simp <;> done) | (simp; omega) | omega) _) (by first | (simp <;> done) | (simp; omega) | omega) _) (by first | (simp <;> done) | (simp; omega) | omega) _) | exact Row.below (B := w3.heap.size) r2 oldB (Nat.le_refl _)), (by refine Row.more (lo := p3.heap.size) ?_ leA; first | exact (Row.far_set (Row.far_set (Row.far_set s2 (by first | (simp <;> done) | (simp; omega) | omega) _) (by first | (simp <;> done) | (simp; omega) | omega) _) (by first | (simp <;> done) | (simp; omega) | omega) _) | exact Row.below (B := w3.heap.size) s2 oldB (Nat.le_refl _)), few_of hxs hms hvs, Below.trans (b := w3) OP oldB⟩
  case rest =>
  obtain ⟨g_b2, zs, ds, A2, D2, c2, e2, rfl, hg_b2, B_b2, r2, s2, hfs, o4⟩ := hcut
  obtain ⟨w4, hw⟩ : ∃ x, x = wc := ⟨_, rfl⟩
  subst hw
  clear q_b1_0 q_b1_1 q_b1_2 f_b1_0 f_b1_1 f_b1_2 q_b1
  replace B_b1 := Bx.old B_b1 o4
  replace r1 := Row.below r1 o4 (Nat.le_refl _)
  replace s1 := Row.below s1 o4 (Nat.le_refl _)
  replace O := Old.trans O o4
  have zw4 := o4.size
  have lt_b2 := B_b2.lt
  have ne_b2_b1 : ¬ (g_b2 = g_b1) := by omega
  have en_b2_b1 : ¬ (g_b1 = g_b2) := by omega
  have lim_r2 := Row.lim r2
  have lim_s2 := Row.lim s2
  obtain ⟨q_b1_0, q_b1_1, q_b1_2, f_b1_0, f_b1_1, f_b1_2, q_b1⟩ := B_b1.all3
  obtain ⟨q_b2_0, q_b2_1, q_b2_2, f_b2_0, f_b2_1, f_b2_2, q_b2⟩ := B_b2.all3
  have NR := few_norm hfr
  have Nr := Lib.hid NR
  have Ns := Lib.hid (few_norm hfs)
  obtain ⟨p1, p2, h3, h4, h5, h6⟩ := few_law hfr hfs
  clear hfr hfs
  have HP1 := Lib.hid p1
  obtain ⟨za, da, hva⟩ : ∃ z d, addF (zr, dr) (zs, ds) = ((z, d) : Fr) := ⟨(addF (zr, dr) (zs, ds)).1, (addF (zr, dr) (zs, ds)).2, rfl⟩
  have Na : Hid (normF (za, da)) := Lib.hid (by rw [← hva]; exact addF_norm _ _)
  obtain ⟨zu, du, hvu⟩ : ∃ z d, subF (zr, dr) (zs, ds) = ((z, d) : Fr) := ⟨(subF (zr, dr) (zs, ds)).1, (subF (zr, dr) (zs, ds)).2, rfl⟩
  have Nu : Hid (normF (zu, du)) := Lib.hid (by rw [← hvu]; exact subF_norm _ _)
  obtain ⟨zm, dm, hvm⟩ : ∃ z d, minF (zr, dr) (zs, ds) = ((z, d) : Fr) := ⟨(minF (zr, dr) (zs, ds)).1, (minF (zr, dr) (zs, ds)).2, rfl⟩
  have Nm : Hid (normF (zm, dm)) := Lib.hid (by rw [← hvm]; exact minF_norm Nr.out Ns.out)
  obtain ⟨zk, dk, hvk⟩ : ∃ z d, maxF (zr, dr) (zs, ds) = ((z, d) : Fr) := ⟨(maxF (zr, dr) (zs, ds)).1, (maxF (zr, dr) (zs, ds)).2, rfl⟩
  have Nk : Hid (normF (zk, dk)) := Lib.hid (by rw [← hvk]; exact maxF_norm Nr.out Ns.out)
  obtain ⟨zq, dq, hvq⟩ : ∃ z d, divF (zr, dr) (zs, ds) = ((z, d) : Fr) := ⟨(divF (zr, dr) (zs, ds)).1, (divF (zr, dr) (zs, ds)).2, rfl⟩
  have Nq : Hid (normF (zq, dq)) := Lib.hid (by rw [← hvq]; exact divF_norm _ _)
  rw [hva] at h3 h5
  rw [hvu] at h4
  rw [hvm, hvk] at h5
  rw [hvq] at h6
  obtain ⟨cc, hcc⟩ : ∃ x, sgnF (zu, du) = x := ⟨_, rfl⟩
  rw [hcc] at h4
  obtain ⟨ss, hss⟩ : ∃ x, sgnF (zs, ds) = x := ⟨_, rfl⟩
  rw [hss] at h6
  have H3 := Lib.hid h3
  have H4 := Lib.hid h4
  have H5 := Lib.hid h5
  have H6 := Lib.hid h6
  have HVa := Lib.hid hva
  have HVu := Lib.hid hvu
  have HVm := Lib.hid hvm
  have HVk := Lib.hid hvk
  have HVq := Lib.hid hvq
  have HC := Lib.hid hcc
  have HS := Lib.hid hss
  clear h3 h4 h5 h6 hva hvu hvm hvk hvq hcc hss NR p1 p2
  go_upto_region 5 with fail
  go_cut [5, 6] (fun sl sl0 wx => ∃ (g : Nat) (A3 D3 : Option Addr) (c3 e3 : Nat), sl = .pointer (some ⟨g, 0, none⟩) ∧ sl0 = .bool true ∧ w4.heap.size ≤ g ∧ Bx wx g #[.bool (sgnZ zr), .slice A3 (len (magZ zr)) c3, .slice D3 (len dr) e3] ∧ Row wx w4.heap.size A3 (len (magZ zr)) c3 (digI (magZ zr)) ∧ Row wx w4.heap.size D3 (len dr) e3 (digI dr) ∧ Old w4 wx)
  case first =>
    have OP : Old w4 w4 := Old.refl _
    go_wp2_with fail
    refine callsNamed ?_
    intro p5 hp
    clear q_b1_0 q_b1_1 q_b1_2 f_b1_0 f_b1_1 f_b1_2 q_b1 q_b2_0 q_b2_1 q_b2_2 f_b2_0 f_b2_1 f_b2_2 q_b2
    have O' : Old w p5 := (by rw [hp]; exact Below.trans (b := w4) O oldB)
    replace B_b1 : Bx p5 (g_b1) #[.bool (sgnZ zr), .slice A1 (len (magZ zr)) c1, .slice D1 (len dr) e1] := (bxK B_b1 hp)
    replace B_b2 : Bx p5 (g_b2) #[.bool (sgnZ zs), .slice A2 (len (magZ zs)) c2, .slice D2 (len ds) e2] := (bxK B_b2 hp)
    replace r1 := rowK r1 hp
    replace s1 := rowK s1 hp
    replace r2 := rowK r2 hp
    replace s2 := rowK s2 hp
    replace OP : Old w4 p5 := (by rw [hp]; exact Below.trans (b := w4) OP oldB)
    have zp5 : w4.heap.size ≤ p5.heap.size := (by rw [hp]; exact leA)
    clear hp O
    have O := O'
    clear O'
    refine (fmtRat_v zr dr A1 D1 c1 e1 _ _ _ r1 s1 Nr.out HP1.out (KT_.old O)).mono ?_
    rintro e w5 ⟨rfl, o5⟩
    replace B_b1 := Bx.old B_b1 o5
    replace B_b2 := Bx.old B_b2 o5
    replace r1 := Row.below r1 o5 (Nat.le_refl _)
    replace s1 := Row.below s1 o5 (Nat.le_refl _)
    replace r2 := Row.below r2 o5 (Nat.le_refl _)
    replace s2 := Row.below s2 o5 (Nat.le_refl _)
    replace O := Old.trans O o5
    replace OP := Old.trans OP o5
    have zw5 := o5.size
    obtain ⟨q_b1_0, q_b1_1, q_b1_2, f_b1_0, f_b1_1, f_b1_2, q_b1⟩ := B_b1.all3
    obtain ⟨q_b2_0, q_b2_1, q_b2_2, f_b2_0, f_b2_1, f_b2_2, q_b2⟩ := B_b2.all3
    go_wp2_with fail
    refine callsNamed ?_
    intro p6 hp
    clear q_b1_0 q_b1_1 q_b1_2 f_b1_0 f_b1_1 f_b1_2 q_b1 q_b2_0 q_b2_1 q_b2_2 f_b2_0 f_b2_1 f_b2_2 q_b2
    have O' : Old w p6 := (by rw [hp]; exact Below.trans (b := w5) O oldB)
    replace B_b1 : Bx p6 (g_b1) #[.bool (sgnZ zr), .slice A1 (len (magZ zr)) c1, .slice D1 (len dr) e1] := (bxK B_b1 hp)
    replace B_b2 : Bx p6 (g_b2) #[.bool (sgnZ zs), .slice A2 (len (magZ zs)) c2, .slice D2 (len ds) e2] := (bxK B_b2 hp)
    replace r1 := rowK r1 hp
    replace s1 := rowK s1 hp
    replace r2 := rowK r2 hp
    replace s2 := rowK s2 hp
    replace OP : Old w4 p6 := (by rw [hp]; exact Below.trans (b := w5) OP oldB)
    have zp6 : w5.heap.size ≤ p6.heap.size := (by rw [hp]; exact leA)
    clear hp O
    have O := O'
    clear O'
    refine (parRat_v zr dr _ Nr.out HP1.out (KT_.old O)).mono ?_
    rintro e w6 ⟨⟨A3, c3, D3, e3, rfl, r3, s3, ap3⟩, o6⟩
    replace B_b1 := Bx.old B_b1 o6
    replace B_b2 := Bx.old B_b2 o6
    replace r1 := Row.below r1 o6 (Nat.le_refl _)
    replace s1 := Row.below s1 o6 (Nat.le_refl _)
    replace r2 := Row.below r2 o6 (Nat.le_refl _)
    replace s2 := Row.below s2 o6 (Nat.le_refl _)
    replace O := Old.trans O o6
    replace OP := Old.trans OP o6
    have zw6 := o6.size
    replace r3 := Row.more (lo' := p6.heap.size) r3 leA
    replace s3 := Row.more (lo' := p6.heap.size) s3 leA
    have lim_r3 := Row.lim r3
    have lim_s3 := Row.lim s3
    obtain ⟨q_b1_0, q_b1_1, q_b1_2, f_b1_0, f_b1_1, f_b1_2, q_b1⟩ := B_b1.all3
    obtain ⟨q_b2_0, q_b2_1, q_b2_2, f_b2_0, f_b2_1, f_b2_2, q_b2⟩ := B_b2.all3
    go_wp2_with fail
    go_meet
    exact ⟨_, A3, D3, c3, e3, rfl, rfl, leA, (by first | exact Bx.new _ _ _ | exact Bx.put3 (Bx.new _ _ _) _ _ _ | exact Bx.put3 (Bx.drew (Bx.new _ _ _)) _ _ _), (by refine Row.more (lo := p6.heap.size) ?_ leA; first | exact (Row.far_set (Row.far_set (Row.far_set r3 (by first | (simp <;> done) | (simp; omega) | omega) _) (by first | (simp <;> done) | (simp; omega) | omega) _) (by first | (simp <;> done) | (simp; omega) | omega) _) | exact Row.below (B := w6.heap.size) r3 oldB (Nat.le_refl _)), (by refine Row.more (lo := p6.heap.size) ?_ leA; first | exact (Row.far_set (Row.far_set (Row.far_set s3 (by first | (simp <;> done) | (simp; omega) | omega) _) (by first | (simp <;> done) | (simp; omega) | omega) _) (by first | (simp <;> done) | (simp; omega) | omega) _) | exact Row.below (B := w6.heap.size) s3 oldB (Nat.le_refl _)), Below.trans (b := w6) OP oldB⟩
  case rest =>
  obtain ⟨g_b3, A3, D3, c3, e3, rfl, rfl, hg_b3, B_b3, r3, s3, o7⟩ := hcut
  obtain ⟨w7, hw⟩ : ∃ x, x = wc := ⟨_, rfl⟩
  subst hw
  clear q_b1_0 q_b1_1 q_b1_2 f_b1_0 f_b1_1 f_b1_2 q_b1 q_b2_0 q_b2_1 q_b2_2 f_b2_0 f_b2_1 f_b2_2 q_b2
  replace B_b1 := Bx.old B_b1 o7
  replace B_b2 := Bx.old B_b2 o7
  replace r1 := Row.below r1 o7 (Nat.le_refl _)
  replace s1 := Row.below s1 o7 (Nat.le_refl _)
  replace r2 := Row.below r2 o7 (Nat.le_refl _)
  replace s2 := Row.below s2 o7 (Nat.le_refl _)
  replace O := Old.trans O o7
  have zw7 := o7.size
  have lt_b3 := B_b3.lt
  have ne_b3_b1 : ¬ (g_b3 = g_b1) := by omega
  have en_b3_b1 : ¬ (g_b1 = g_b3) := by omega
  have ne_b3_b2 : ¬ (g_b3 = g_b2) := by omega
  have en_b3_b2 : ¬ (g_b2 = g_b3) := by omega
  have lim_r3 := Row.lim r3
  have lim_s3 := Row.lim s3
  obtain ⟨q_b1_0, q_b1_1, q_b1_2, f_b1_0, f_b1_1, f_b1_2, q_b1⟩ := B_b1.all3
  obtain ⟨q_b2_0, q_b2_1, q_b2_2, f_b2_0, f_b2_1, f_b2_2, q_b2⟩ := B_b2.all3
  obtain ⟨q_b3_0, q_b3_1, q_b3_2, f_b3_0, f_b3_1, f_b3_2, q_b3⟩ := B_b3.all3
  by_cases hs0 : ss = 0
  case pos =>
    subst hs0
    clear H6
    go_wp2_with fail
    refine wp_region_held_drew (S := fun w' => w'.cell? ⟨g_b1, 0, none⟩ = some (.bool (sgnZ zr)) ∧ w'.cell? ⟨g_b1, 1, none⟩ = some (.slice A1 (len (magZ zr)) c1) ∧ w'.cell? ⟨g_b1, 2, none⟩ = some (.slice D1 (len dr) e1) ∧ w'.cell? ⟨g_b2, 0, none⟩ = some (.bool (sgnZ zs)) ∧ w'.cell? ⟨g_b2, 1, none⟩ = some (.slice A2 (len (magZ zs)) c2) ∧ w'.cell? ⟨g_b2, 2, none⟩ = some (.slice D2 (len ds) e2) ∧ w'.cell? ⟨g_b3, 0, none⟩ = some (.bool (sgnZ zr)) ∧ w'.cell? ⟨g_b3, 1, none⟩ = some (.slice A3 (len (magZ zr)) c3) ∧ w'.cell? ⟨g_b3, 2, none⟩ = some (.slice D3 (len dr) e3)) (by kernel_rfl) ?hS0 (fun hHeld => ?re0)
    case hS0 => (try dsimp only); go_keep
    refine takeW (i := 0) (v := ?v0) rfl (by kernel_rfl) (by kernel_rfl) (by kernel_rfl) (fun _ _ _ h => h) (by rfl) (by assumption) ?hy0 ?re0x
    case hy0 => (intro w hSw; (try dsimp only at hSw); go_simp <;> with_reducible rfl)
    (try simp only [Act.put, List.setIfInBounds_toArray, List.set_cons_zero, List.set_cons_succ])
    refine takeW (i := 1) (v := ?v1) rfl (by kernel_rfl) (by kernel_rfl) (by kernel_rfl) (fun _ _ _ h => h) (by rfl) (by assumption) ?hy1 ?re1x
    case hy1 => (intro w hSw; (try dsimp only at hSw); go_simp <;> with_reducible rfl)
    (try simp only [Act.put, List.setIfInBounds_toArray, List.set_cons_zero, List.set_cons_succ])
    refine takeW (i := 2) (v := ?v2) rfl (by kernel_rfl) (by kernel_rfl) (by kernel_rfl) (fun _ _ _ h => h) (by rfl) (by assumption) ?hy2 ?re2x
    case hy2 => (intro w hSw; (try dsimp only at hSw); go_simp <;> with_reducible rfl)
    (try simp only [Act.put, List.setIfInBounds_toArray, List.set_cons_zero, List.set_cons_succ])
    refine takeW (i := 3) (v := ?v3) rfl (by kernel_rfl) (by kernel_rfl) (by kernel_rfl) (fun _ _ _ h => h) (by rfl) (by assumption) ?hy3 ?re3x
    case hy3 => (intro w hSw; (try dsimp only at hSw); go_simp <;> with_reducible rfl)
    (try simp only [Act.put, List.setIfInBounds_toArray, List.set_cons_zero, List.set_cons_succ])
    refine callW (i := 4) rfl (by kernel_rfl) (by rfl) ?re4x
    intro K hK
    go_simp
    refine callsNamed ?_
    intro p8 hp
    clear q_b1_0 q_b1_1 q_b1_2 f_b1_0 f_b1_1 f_b1_2 q_b1 q_b2_0 q_b2_1 q_b2_2 f_b2_0 f_b2_1 f_b2_2 q_b2 q_b3_0 q_b3_1 q_b3_2 f_b3_0 f_b3_1 f_b3_2 q_b3
    have O' : Old w p8 := (by rw [hp]; exact Below.trans (b := w7) O oldB)
    replace B_b1 : Bx p8 (g_b1) #[.bool (sgnZ zr), .slice A1 (len (magZ zr)) c1, .slice D1 (len dr) e1] := (bxK B_b1 hp)
    replace B_b2 : Bx p8 (g_b2) #[.bool (sgnZ zs), .slice A2 (len (magZ zs)) c2, .slice D2 (len ds) e2] := (bxK B_b2 hp)
    replace B_b3 : Bx p8 (g_b3) #[.bool (sgnZ zr), .slice A3 (len (magZ zr)) c3, .slice D3 (len dr) e3] := (bxK B_b3 hp)
    replace r1 := rowK r1 hp
    replace s1 := rowK s1 hp
    replace r2 := rowK r2 hp
    replace s2 := rowK s2 hp
    replace r3 := rowK r3 hp
    replace s3 := rowK s3 hp
    have zp8 : w7.heap.size ≤ p8.heap.size := (by rw [hp]; exact leA)
    clear hp O
    have O := O'
    clear O'
    refine (ratEq_v zr dr A3 D3 c3 e3 _ _ A1 D1 c1 e1 _ _ _ r3 s3 r1 s1 Nr.out).mono ?_
    rintro e w8 ⟨rfl, o8⟩
    replace B_b1 := Bx.old B_b1 o8
    replace B_b2 := Bx.old B_b2 o8
    replace B_b3 := Bx.old B_b3 o8
    replace r1 := Row.below r1 o8 (Nat.le_refl _)
    replace s1 := Row.below s1 o8 (Nat.le_refl _)
    replace r2 := Row.below r2 o8 (Nat.le_refl _)
    replace s2 := Row.below s2 o8 (Nat.le_refl _)
    replace r3 := Row.below r3 o8 (Nat.le_refl _)
    replace s3 := Row.below s3 o8 (Nat.le_refl _)
    replace O := Old.trans O o8
    have zw8 := o8.size
    obtain ⟨q_b1_0, q_b1_1, q_b1_2, f_b1_0, f_b1_1, f_b1_2, q_b1⟩ := B_b1.all3
    obtain ⟨q_b2_0, q_b2_1, q_b2_2, f_b2_0, f_b2_1, f_b2_2, q_b2⟩ := B_b2.all3
    obtain ⟨q_b3_0, q_b3_1, q_b3_2, f_b3_0, f_b3_1, f_b3_2, q_b3⟩ := B_b3.all3
    go_wp2_with fail
    refine hK.out _ _ ?hS4x (fun hHeld2 => ?re4y)
    case hS4x => (try dsimp only); go_keep
    clear hK K hHeld
    have hHeld := hHeld2
    clear hHeld2
    (try simp only [Act.put, List.setIfInBounds_toArray, List.set_cons_zero, List.set_cons_succ])
    refine takeW (i := 5) (v := ?v5) rfl (by kernel_rfl) (by kernel_rfl) (by kernel_rfl) (fun _ _ _ h => h) (by rfl) (by assumption) ?hy5 ?re5x
    case hy5 => (intro w hSw; (try dsimp only at hSw); go_simp <;> with_reducible rfl)
    (try simp only [Act.put, List.setIfInBounds_toArray, List.set_cons_zero, List.set_cons_succ])
    refine takeW (i := 6) (v := ?v6) rfl (by kernel_rfl) (by kernel_rfl) (by kernel_rfl) (fun _ _ _ h => h) (by rfl) (by assumption) ?hy6 ?re6x
    case hy6 => (intro w hSw; (try dsimp only at hSw); go_simp <;> with_reducible rfl)
    (try simp only [Act.put, List.setIfInBounds_toArray, List.set_cons_zero, List.set_cons_succ])
    refine takeW (i := 7) (v := ?v7) rfl (by kernel_rfl) (by kernel_rfl) (by kernel_rfl) (fun _ _ _ h => h) (by rfl) (by assumption) ?hy7 ?re7x
    case hy7 => (intro w hSw; (try dsimp only at hSw); go_simp <;> with_reducible rfl)
    (try simp only [Act.put, List.setIfInBounds_toArray, List.set_cons_zero, List.set_cons_succ])
    refine takeW (i := 8) (v := ?v8) rfl (by kernel_rfl) (by kernel_rfl) (by kernel_rfl) (fun _ _ _ h => h) (by rfl) (by assumption) ?hy8 ?re8x
    case hy8 => (intro w hSw; (try dsimp only at hSw); go_simp <;> with_reducible rfl)
    (try simp only [Act.put, List.setIfInBounds_toArray, List.set_cons_zero, List.set_cons_succ])
    refine takeW (i := 10) (v := ?v10) rfl (by kernel_rfl) (by kernel_rfl) (by kernel_rfl) (fun _ _ _ h => h) (by rfl) (by assumption) ?hy10 ?re10x
    case hy10 => (intro w hSw; (try dsimp only at hSw); go_simp <;> with_reducible rfl)
    (try simp only [Act.put, List.setIfInBounds_toArray, List.set_cons_zero, List.set_cons_succ])
    refine takeW (i := 12) (v := ?v12) rfl (by kernel_rfl) (by kernel_rfl) (by kernel_rfl) (fun _ _ _ h => h) (by rfl) (by assumption) ?hy12 ?re12x
    case hy12 => (intro w hSw; (try dsimp only at hSw); go_simp <;> with_reducible rfl)
    (try simp only [Act.put, List.setIfInBounds_toArray, List.set_cons_zero, List.set_cons_succ])
    refine callW (i := 9) rfl (by kernel_rfl) (by rfl) ?re9x
    intro K hK
    go_simp
    refine callsNamed ?_
    intro p9 hp
    clear q_b1_0 q_b1_1 q_b1_2 f_b1_0 f_b1_1 f_b1_2 q_b1 q_b2_0 q_b2_1 q_b2_2 f_b2_0 f_b2_1 f_b2_2 q_b2 q_b3_0 q_b3_1 q_b3_2 f_b3_0 f_b3_1 f_b3_2 q_b3
    have O' : Old w p9 := (by rw [hp]; exact Below.trans (b := w8) O oldB)
    replace B_b1 : Bx p9 (g_b1) #[.bool (sgnZ zr), .slice A1 (len (magZ zr)) c1, .slice D1 (len dr) e1] := (bxK B_b1 hp)
    replace B_b2 : Bx p9 (g_b2) #[.bool (sgnZ zs), .slice A2 (len (magZ zs)) c2, .slice D2 (len ds) e2] := (bxK B_b2 hp)
    replace B_b3 : Bx p9 (g_b3) #[.bool (sgnZ zr), .slice A3 (len (magZ zr)) c3, .slice D3 (len dr) e3] := (bxK B_b3 hp)
    replace r1 := rowK r1 hp
    replace s1 := rowK s1 hp
    replace r2 := rowK r2 hp
    replace s2 := rowK s2 hp
    replace r3 := rowK r3 hp
    replace s3 := rowK s3 hp
    have zp9 : w8.heap.size ≤ p9.heap.size := (by rw [hp]; exact leA)
    clear hp O
    have O := O'
    clear O'
    refine (retF_to HVa.out (impl_RatAdd_v zr dr A1 D1 c1 e1 _ _ zs ds A2 D2 c2 e2 _ _ _ r1 s1 Nr.out r2 s2 Ns.out)).mono ?_
    rintro e w9 ⟨⟨A4, c4, D4, e4, rfl, r4, s4, ap4⟩, o9⟩
    replace B_b1 := Bx.old B_b1 o9
    replace B_b2 := Bx.old B_b2 o9
    replace B_b3 := Bx.old B_b3 o9
    replace r1 := Row.below r1 o9 (Nat.le_refl _)
    replace s1 := Row.below s1 o9 (Nat.le_refl _)
    replace r2 := Row.below r2 o9 (Nat.le_refl _)
    replace s2 := Row.below s2 o9 (Nat.le_refl _)
    replace r3 := Row.below r3 o9 (Nat.le_refl _)
    replace s3 := Row.below s3 o9 (Nat.le_refl _)
    replace O := Old.trans O o9
    have zw9 := o9.size
    replace r4 := Row.more (lo' := p9.heap.size) r4 leA
    replace s4 := Row.more (lo' := p9.heap.size) s4 leA
    have lim_r4 := Row.lim r4
    have lim_s4 := Row.lim s4
    clear ap4
    obtain ⟨q_b1_0, q_b1_1, q_b1_2, f_b1_0, f_b1_1, f_b1_2, q_b1⟩ := B_b1.all3
    obtain ⟨q_b2_0, q_b2_1, q_b2_2, f_b2_0, f_b2_1, f_b2_2, q_b2⟩ := B_b2.all3
    obtain ⟨q_b3_0, q_b3_1, q_b3_2, f_b3_0, f_b3_1, f_b3_2, q_b3⟩ := B_b3.all3
    go_wp2_with fail
    refine hK.out _ _ ?hS9x (fun hHeld2 => ?re9y)
    case hS9x => (try dsimp only); go_keep
    clear hK K hHeld
    have hHeld := hHeld2
    clear hHeld2
    (try simp only [Act.put, List.setIfInBounds_toArray, List.set_cons_zero, List.set_cons_succ])
    refine callW (i := 11) rfl (by kernel_rfl) (by rfl) ?re11x
    intro K hK
    go_simp
    refine callsNamed ?_
    intro p10 hp
    clear q_b1_0 q_b1_1 q_b1_2 f_b1_0 f_b1_1 f_b1_2 q_b1 q_b2_0 q_b2_1 q_b2_2 f_b2_0 f_b2_1 f_b2_2 q_b2 q_b3_0 q_b3_1 q_b3_2 f_b3_0 f_b3_1 f_b3_2 q_b3
    have O' : Old w p10 := (by rw [hp]; exact Below.trans (b := w9) O oldB)
    replace B_b1 : Bx p10 (g_b1) #[.bool (sgnZ zr), .slice A1 (len (magZ zr)) c1, .slice D1 (len dr) e1] := (bxK B_b1 hp)
    replace B_b2 : Bx p10 (g_b2) #[.bool (sgnZ zs), .slice A2 (len (magZ zs)) c2, .slice D2 (len ds) e2] := (bxK B_b2 hp)
    replace B_b3 : Bx p10 (g_b3) #[.bool (sgnZ zr), .slice A3 (len (magZ zr)) c3, .slice D3 (len dr) e3] := (bxK B_b3 hp)
    replace r1 := rowK r1 hp
    replace s1 := rowK s1 hp
    replace r2 := rowK r2 hp
    replace s2 := rowK s2 hp
    replace r3 := rowK r3 hp
    replace s3 := rowK s3 hp
    replace r4 := rowK r4 hp
    replace s4 := rowK s4 hp
    have zp10 : w9.heap.size ≤ p10.heap.size := (by rw [hp]; exact leA)
    clear hp O
    have O := O'
    clear O'
    refine (retF_to H3.out (impl_RatSub_v za da A4 D4 c4 e4 _ _ zs ds A2 D2 c2 e2 _ _ _ r4 s4 Na.out r2 s2 Ns.out)).mono ?_
    rintro e w10 ⟨⟨A5, c5, D5, e5, rfl, r5, s5, ap5⟩, o10⟩
    replace B_b1 := Bx.old B_b1 o10
    replace B_b2 := Bx.old B_b2 o10
    replace B_b3 := Bx.old B_b3 o10
    replace r1 := Row.below r1 o10 (Nat.le_refl _)
    replace s1 := Row.below s1 o10 (Nat.le_refl _)
    replace r2 := Row.below r2 o10 (Nat.le_refl _)
    replace s2 := Row.below s2 o10 (Nat.le_refl _)
    replace r3 := Row.below r3 o10 (Nat.le_refl _)
    replace s3 := Row.below s3 o10 (Nat.le_refl _)
    replace r4 := Row.below r4 o10 (Nat.le_refl _)
    replace s4 := Row.below s4 o10 (Nat.le_refl _)
    replace O := Old.trans O o10
    have zw10 := o10.size
    replace r5 := Row.more (lo' := p10.heap.size) r5 leA
    replace s5 := Row.more (lo' := p10.heap.size) s5 leA
    have lim_r5 := Row.lim r5
    have lim_s5 := Row.lim s5
    clear ap5
    obtain ⟨q_b1_0, q_b1_1, q_b1_2, f_b1_0, f_b1_1, f_b1_2, q_b1⟩ := B_b1.all3
    obtain ⟨q_b2_0, q_b2_1, q_b2_2, f_b2_0, f_b2_1, f_b2_2, q_b2⟩ := B_b2.all3
    obtain ⟨q_b3_0, q_b3_1, q_b3_2, f_b3_0, f_b3_1, f_b3_2, q_b3⟩ := B_b3.all3
    go_wp2_with fail
    refine hK.out _ _ ?hS11x (fun hHeld2 => ?re11y)
    case hS11x => (try dsimp only); go_keep
    clear hK K hHeld
    have hHeld := hHeld2
    clear hHeld2
    (try simp only [Act.put, List.setIfInBounds_toArray, List.set_cons_zero, List.set_cons_succ])
    refine callW (i := 13) rfl (by kernel_rfl) (by rfl) ?re13x
    intro K hK
    go_simp
    refine callsNamed ?_
    intro p11 hp
    clear q_b1_0 q_b1_1 q_b1_2 f_b1_0 f_b1_1 f_b1_2 q_b1 q_b2_0 q_b2_1 q_b2_2 f_b2_0 f_b2_1 f_b2_2 q_b2 q_b3_0 q_b3_1 q_b3_2 f_b3_0 f_b3_1 f_b3_2 q_b3
    have O' : Old w p11 := (by rw [hp]; exact Below.trans (b := w10) O oldB)
    replace B_b1 : Bx p11 (g_b1) #[.bool (sgnZ zr), .slice A1 (len (magZ zr)) c1, .slice D1 (len dr) e1] := (bxK B_b1 hp)
    replace B_b2 : Bx p11 (g_b2) #[.bool (sgnZ zs), .slice A2 (len (magZ zs)) c2, .slice D2 (len ds) e2] := (bxK B_b2 hp)
    replace B_b3 : Bx p11 (g_b3) #[.bool (sgnZ zr), .slice A3 (len (magZ zr)) c3, .slice D3 (len dr) e3] := (bxK B_b3 hp)
    replace r1 := rowK r1 hp
    replace s1 := rowK s1 hp
    replace r2 := rowK r2 hp
    replace s2 := rowK s2 hp
    replace r3 := rowK r3 hp
    replace s3 := rowK s3 hp
    replace r4 := rowK r4 hp
    replace s4 := rowK s4 hp
    replace r5 := rowK r5 hp
    replace s5 := rowK s5 hp
    have zp11 : w10.heap.size ≤ p11.heap.size := (by rw [hp]; exact leA)
    clear hp O
    have O := O'
    clear O'
    refine (ratEq_v zr dr A5 D5 c5 e5 _ _ A1 D1 c1 e1 _ _ _ r5 s5 r1 s1 Nr.out).mono ?_
    rintro e w11 ⟨rfl, o11⟩
    replace B_b1 := Bx.old B_b1 o11
    replace B_b2 := Bx.old B_b2 o11
    replace B_b3 := Bx.old B_b3 o11
    replace r1 := Row.below r1 o11 (Nat.le_refl _)
    replace s1 := Row.below s1 o11 (Nat.le_refl _)
    replace r2 := Row.below r2 o11 (Nat.le_refl _)
    replace s2 := Row.below s2 o11 (Nat.le_refl _)
    replace r3 := Row.below r3 o11 (Nat.le_refl _)
    replace s3 := Row.below s3 o11 (Nat.le_refl _)
    replace r4 := Row.below r4 o11 (Nat.le_refl _)
    replace s4 := Row.below s4 o11 (Nat.le_refl _)
    replace r5 := Row.below r5 o11 (Nat.le_refl _)
    replace s5 := Row.below s5 o11 (Nat.le_refl _)
    replace O := Old.trans O o11
    have zw11 := o11.size
    obtain ⟨q_b1_0, q_b1_1, q_b1_2, f_b1_0, f_b1_1, f_b1_2, q_b1⟩ := B_b1.all3
    obtain ⟨q_b2_0, q_b2_1, q_b2_2, f_b2_0, f_b2_1, f_b2_2, q_b2⟩ := B_b2.all3
    obtain ⟨q_b3_0, q_b3_1, q_b3_2, f_b3_0, f_b3_1, f_b3_2, q_b3⟩ := B_b3.all3
    go_wp2_with fail
    refine hK.out _ _ ?hS13x (fun hHeld2 => ?re13y)
    case hS13x => (try dsimp only); go_keep
    clear hK K hHeld
    have hHeld := hHeld2
    clear hHeld2
    (try simp only [Act.put, List.setIfInBounds_toArray, List.set_cons_zero, List.set_cons_succ])
    refine takeW (i := 14) (v := ?v14) rfl (by kernel_rfl) (by kernel_rfl) (by kernel_rfl) (fun _ _ _ h => h) (by rfl) (by assumption) ?hy14 ?re14x
    case hy14 => (intro w hSw; (try dsimp only at hSw); go_simp <;> with_reducible rfl)
    (try simp only [Act.put, List.setIfInBounds_toArray, List.set_cons_zero, List.set_cons_succ])
    refine takeW (i := 15) (v := ?v15) rfl (by kernel_rfl) (by kernel_rfl) (by kernel_rfl) (fun _ _ _ h => h) (by rfl) (by assumption) ?hy15 ?re15x
    case hy15 => (intro w hSw; (try dsimp only at hSw); go_simp <;> with_reducible rfl)
    (try simp only [Act.put, List.setIfInBounds_toArray, List.set_cons_zero, List.set_cons_succ])
    refine takeW (i := 16) (v := ?v16) rfl (by kernel_rfl) (by kernel_rfl) (by kernel_rfl) (fun _ _ _ h => h) (by rfl) (by assumption) ?hy16 ?re16x
    case hy16 => (intro w hSw; (try dsimp only at hSw); go_simp <;> with_reducible rfl)
    (try simp only [Act.put, List.setIfInBounds_toArray, List.set_cons_zero, List.set_cons_succ])
    refine takeW (i := 17) (v := ?v17) rfl (by kernel_rfl) (by kernel_rfl) (by kernel_rfl) (fun _ _ _ h => h) (by rfl) (by assumption) ?hy17 ?re17x
    case hy17 => (intro w hSw; (try dsimp only at hSw); go_simp <;> with_reducible rfl)
    (try simp only [Act.put, List.setIfInBounds_toArray, List.set_cons_zero, List.set_cons_succ])
    refine takeW (i := 19) (v := ?v19) rfl (by kernel_rfl) (by kernel_rfl) (by kernel_rfl) (fun _ _ _ h => h) (by rfl) (by assumption) ?hy19 ?re19x
    case hy19 => (intro w hSw; (try dsimp only at hSw); go_simp <;> with_reducible rfl)
    (try simp only [Act.put, List.setIfInBounds_toArray, List.set_cons_zero, List.set_cons_succ])
    refine takeW (i := 20) (v := ?v20) rfl (by kernel_rfl) (by kernel_rfl) (by kernel_rfl) (fun _ _ _ h => h) (by rfl) (by assumption) ?hy20 ?re20x
    case hy20 => (intro w hSw; (try dsimp only at hSw); go_simp <;> with_reducible rfl)
    (try simp only [Act.put, List.setIfInBounds_toArray, List.set_cons_zero, List.set_cons_succ])
    refine callW (i := 18) rfl (by kernel_rfl) (by rfl) ?re18x
    intro K hK
    go_simp
    refine callsNamed ?_
    intro p12 hp
    clear q_b1_0 q_b1_1 q_b1_2 f_b1_0 f_b1_1 f_b1_2 q_b1 q_b2_0 q_b2_1 q_b2_2 f_b2_0 f_b2_1 f_b2_2 q_b2 q_b3_0 q_b3_1 q_b3_2 f_b3_0 f_b3_1 f_b3_2 q_b3
    have O' : Old w p12 := (by rw [hp]; exact Below.trans (b := w11) O oldB)
    replace B_b1 : Bx p12 (g_b1) #[.bool (sgnZ zr), .slice A1 (len (magZ zr)) c1, .slice D1 (len dr) e1] := (bxK B_b1 hp)
    replace B_b2 : Bx p12 (g_b2) #[.bool (sgnZ zs), .slice A2 (len (magZ zs)) c2, .slice D2 (len ds) e2] := (bxK B_b2 hp)
    replace B_b3 : Bx p12 (g_b3) #[.bool (sgnZ zr), .slice A3 (len (magZ zr)) c3, .slice D3 (len dr) e3] := (bxK B_b3 hp)
    replace r1 := rowK r1 hp
    replace s1 := rowK s1 hp
    replace r2 := rowK r2 hp
    replace s2 := rowK s2 hp
    replace r3 := rowK r3 hp
    replace s3 := rowK s3 hp
    replace r4 := rowK r4 hp
    replace s4 := rowK s4 hp
    replace r5 := rowK r5 hp
    replace s5 := rowK s5 hp
    have zp12 : w11.heap.size ≤ p12.heap.size := (by rw [hp]; exact leA)
    clear hp O
    have O := O'
    clear O'
    refine (plain_to (by rw [H4.out]) (impl_RatCmp_v zr dr A1 D1 c1 e1 _ _ zs ds A2 D2 c2 e2 _ _ _ r1 s1 Nr.out r2 s2 Ns.out)).mono ?_
    rintro e w12 ⟨rfl, o12⟩
    replace B_b1 := Bx.old B_b1 o12
    replace B_b2 := Bx.old B_b2 o12
    replace B_b3 := Bx.old B_b3 o12
    replace r1 := Row.below r1 o12 (Nat.le_refl _)
    replace s1 := Row.below s1 o12 (Nat.le_refl _)
    replace r2 := Row.below r2 o12 (Nat.le_refl _)
    replace s2 := Row.below s2 o12 (Nat.le_refl _)
    replace r3 := Row.below r3 o12 (Nat.le_refl _)
    replace s3 := Row.below s3 o12 (Nat.le_refl _)
    replace r4 := Row.below r4 o12 (Nat.le_refl _)
    replace s4 := Row.below s4 o12 (Nat.le_refl _)
    replace r5 := Row.below r5 o12 (Nat.le_refl _)
    replace s5 := Row.below s5 o12 (Nat.le_refl _)
    replace O := Old.trans O o12
    have zw12 := o12.size
    obtain ⟨q_b1_0, q_b1_1, q_b1_2, f_b1_0, f_b1_1, f_b1_2, q_b1⟩ := B_b1.all3
    obtain ⟨q_b2_0, q_b2_1, q_b2_2, f_b2_0, f_b2_1, f_b2_2, q_b2⟩ := B_b2.all3
    obtain ⟨q_b3_0, q_b3_1, q_b3_2, f_b3_0, f_b3_1, f_b3_2, q_b3⟩ := B_b3.all3
    go_wp2_with fail
    refine hK.out _ _ ?hS18x (fun hHeld2 => ?re18y)
    case hS18x => (try dsimp only); go_keep
    clear hK K hHeld
    have hHeld := hHeld2
    clear hHeld2
    (try simp only [Act.put, List.setIfInBounds_toArray, List.set_cons_zero, List.set_cons_succ])
    refine callW (i := 21) rfl (by kernel_rfl) (by rfl) ?re21x
    intro K hK
    go_simp
    refine callsNamed ?_
    intro p13 hp
    clear q_b1_0 q_b1_1 q_b1_2 f_b1_0 f_b1_1 f_b1_2 q_b1 q_b2_0 q_b2_1 q_b2_2 f_b2_0 f_b2_1 f_b2_2 q_b2 q_b3_0 q_b3_1 q_b3_2 f_b3_0 f_b3_1 f_b3_2 q_b3
    have O' : Old w p13 := (by rw [hp]; exact Below.trans (b := w12) O oldB)
    replace B_b1 : Bx p13 (g_b1) #[.bool (sgnZ zr), .slice A1 (len (magZ zr)) c1, .slice D1 (len dr) e1] := (bxK B_b1 hp)
    replace B_b2 : Bx p13 (g_b2) #[.bool (sgnZ zs), .slice A2 (len (magZ zs)) c2, .slice D2 (len ds) e2] := (bxK B_b2 hp)
    replace B_b3 : Bx p13 (g_b3) #[.bool (sgnZ zr), .slice A3 (len (magZ zr)) c3, .slice D3 (len dr) e3] := (bxK B_b3 hp)
    replace r1 := rowK r1 hp
    replace s1 := rowK s1 hp
    replace r2 := rowK r2 hp
    replace s2 := rowK s2 hp
    replace r3 := rowK r3 hp
    replace s3 := rowK s3 hp
    replace r4 := rowK r4 hp
    replace s4 := rowK s4 hp
    replace r5 := rowK r5 hp
    replace s5 := rowK s5 hp
    have zp13 : w12.heap.size ≤ p13.heap.size := (by rw [hp]; exact leA)
    clear hp O
    have O := O'
    clear O'
    refine (retF_to HVu.out (impl_RatSub_v zr dr A1 D1 c1 e1 _ _ zs ds A2 D2 c2 e2 _ _ _ r1 s1 Nr.out r2 s2 Ns.out)).mono ?_
    rintro e w13 ⟨⟨A6, c6, D6, e6, rfl, r6, s6, ap6⟩, o13⟩
    replace B_b1 := Bx.old B_b1 o13
    replace B_b2 := Bx.old B_b2 o13
    replace B_b3 := Bx.old B_b3 o13
    replace r1 := Row.below r1 o13 (Nat.le_refl _)
    replace s1 := Row.below s1 o13 (Nat.le_refl _)
    replace r2 := Row.below r2 o13 (Nat.le_refl _)
    replace s2 := Row.below s2 o13 (Nat.le_refl _)
    replace r3 := Row.below r3 o13 (Nat.le_refl _)
    replace s3 := Row.below s3 o13 (Nat.le_refl _)
    replace r4 := Row.below r4 o13 (Nat.le_refl _)
    replace s4 := Row.below s4 o13 (Nat.le_refl _)
    replace r5 := Row.below r5 o13 (Nat.le_refl _)
    replace s5 := Row.below s5 o13 (Nat.le_refl _)
    replace O := Old.trans O o13
    have zw13 := o13.size
    replace r6 := Row.more (lo' := p13.heap.size) r6 leA
    replace s6 := Row.more (lo' := p13.heap.size) s6 leA
    have lim_r6 := Row.lim r6
    have lim_s6 := Row.lim s6
    clear ap6
    obtain ⟨q_b1_0, q_b1_1, q_b1_2, f_b1_0, f_b1_1, f_b1_2, q_b1⟩ := B_b1.all3
    obtain ⟨q_b2_0, q_b2_1, q_b2_2, f_b2_0, f_b2_1, f_b2_2, q_b2⟩ := B_b2.all3
    obtain ⟨q_b3_0, q_b3_1, q_b3_2, f_b3_0, f_b3_1, f_b3_2, q_b3⟩ := B_b3.all3
    go_wp2_with fail
    refine hK.out _ _ ?hS21x (fun hHeld2 => ?re21y)
    case hS21x => (try dsimp only); go_keep
    clear hK K hHeld
    have hHeld := hHeld2
    clear hHeld2
    (try simp only [Act.put, List.setIfInBounds_toArray, List.set_cons_zero, List.set_cons_succ])
    refine callW (i := 22) rfl (by kernel_rfl) (by rfl) ?re22x
    intro K hK
    go_simp
    refine callsNamed ?_
    intro p14 hp
    clear q_b1_0 q_b1_1 q_b1_2 f_b1_0 f_b1_1 f_b1_2 q_b1 q_b2_0 q_b2_1 q_b2_2 f_b2_0 f_b2_1 f_b2_2 q_b2 q_b3_0 q_b3_1 q_b3_2 f_b3_0 f_b3_1 f_b3_2 q_b3
    have O' : Old w p14 := (by rw [hp]; exact Below.trans (b := w13) O oldB)
    replace B_b1 : Bx p14 (g_b1) #[.bool (sgnZ zr), .slice A1 (len (magZ zr)) c1, .slice D1 (len dr) e1] := (bxK B_b1 hp)
    replace B_b2 : Bx p14 (g_b2) #[.bool (sgnZ zs), .slice A2 (len (magZ zs)) c2, .slice D2 (len ds) e2] := (bxK B_b2 hp)
    replace B_b3 : Bx p14 (g_b3) #[.bool (sgnZ zr), .slice A3 (len (magZ zr)) c3, .slice D3 (len dr) e3] := (bxK B_b3 hp)
    replace r1 := rowK r1 hp
    replace s1 := rowK s1 hp
    replace r2 := rowK r2 hp
    replace s2 := rowK s2 hp
    replace r3 := rowK r3 hp
    replace s3 := rowK s3 hp
    replace r4 := rowK r4 hp
    replace s4 := rowK s4 hp
    replace r5 := rowK r5 hp
    replace s5 := rowK s5 hp
    replace r6 := rowK r6 hp
    replace s6 := rowK s6 hp
    have zp14 : w13.heap.size ≤ p14.heap.size := (by rw [hp]; exact leA)
    clear hp O
    have O := O'
    clear O'
    refine (plain_to (by rw [HC.out]) (impl_RatSign_v zu du A6 D6 c6 e6 _ _ _ r6 s6 Nu.out)).mono ?_
    rintro e w14 ⟨rfl, o14⟩
    replace B_b1 := Bx.old B_b1 o14
    replace B_b2 := Bx.old B_b2 o14
    replace B_b3 := Bx.old B_b3 o14
    replace r1 := Row.below r1 o14 (Nat.le_refl _)
    replace s1 := Row.below s1 o14 (Nat.le_refl _)
    replace r2 := Row.below r2 o14 (Nat.le_refl _)
    replace s2 := Row.below s2 o14 (Nat.le_refl _)
    replace r3 := Row.below r3 o14 (Nat.le_refl _)
    replace s3 := Row.below s3 o14 (Nat.le_refl _)
    replace r4 := Row.below r4 o14 (Nat.le_refl _)
    replace s4 := Row.below s4 o14 (Nat.le_refl _)
    replace r5 := Row.below r5 o14 (Nat.le_refl _)
    replace s5 := Row.below s5 o14 (Nat.le_refl _)
    replace r6 := Row.below r6 o14 (Nat.le_refl _)
    replace s6 := Row.below s6 o14 (Nat.le_refl _)
    replace O := Old.trans O o14
    have zw14 := o14.size
    obtain ⟨q_b1_0, q_b1_1, q_b1_2, f_b1_0, f_b1_1, f_b1_2, q_b1⟩ := B_b1.all3
    obtain ⟨q_b2_0, q_b2_1, q_b2_2, f_b2_0, f_b2_1, f_b2_2, q_b2⟩ := B_b2.all3
    obtain ⟨q_b3_0, q_b3_1, q_b3_2, f_b3_0, f_b3_1, f_b3_2, q_b3⟩ := B_b3.all3
    go_wp2_with fail
    refine hK.out _ _ ?hS22x (fun hHeld2 => ?re22y)
    case hS22x => (try dsimp only); go_keep
    clear hK K hHeld
    have hHeld := hHeld2
    clear hHeld2
    (try simp only [Act.put, List.setIfInBounds_toArray, List.set_cons_zero, List.set_cons_succ])
    refine takeW (i := 23) (v := ?v23) rfl (by kernel_rfl) (by kernel_rfl) (by kernel_rfl) (fun _ _ _ h => h) (by rfl) (by assumption) ?hy23 ?re23x
    case hy23 => (intro w hSw; (try dsimp only at hSw); go_simp <;> with_reducible rfl)
    (try simp only [Act.put, List.setIfInBounds_toArray, List.set_cons_zero, List.set_cons_succ])
    refine takeW (i := 24) (v := ?v24) rfl (by kernel_rfl) (by kernel_rfl) (by kernel_rfl) (fun _ _ _ h => h) (by rfl) (by assumption) ?hy24 ?re24x
    case hy24 => (intro w hSw; (try dsimp only at hSw); go_simp <;> with_reducible rfl)
    (try simp only [Act.put, List.setIfInBounds_toArray, List.set_cons_zero, List.set_cons_succ])
    refine takeW (i := 25) (v := ?v25) rfl (by kernel_rfl) (by kernel_rfl) (by kernel_rfl) (fun _ _ _ h => h) (by rfl) (by assumption) ?hy25 ?re25x
    case hy25 => (intro w hSw; (try dsimp only at hSw); go_simp <;> with_reducible rfl)
    (try simp only [Act.put, List.setIfInBounds_toArray, List.set_cons_zero, List.set_cons_succ])
    refine takeW (i := 26) (v := ?v26) rfl (by kernel_rfl) (by kernel_rfl) (by kernel_rfl) (fun _ _ _ h => h) (by rfl) (by assumption) ?hy26 ?re26x
    case hy26 => (intro w hSw; (try dsimp only at hSw); go_simp <;> with_reducible rfl)
    (try simp only [Act.put, List.setIfInBounds_toArray, List.set_cons_zero, List.set_cons_succ])
    refine takeW (i := 27) (v := ?v27) rfl (by kernel_rfl) (by kernel_rfl) (by kernel_rfl) (fun _ _ _ h => h) (by rfl) (by assumption) ?hy27 ?re27x
    case hy27 => (intro w hSw; (try dsimp only at hSw); go_simp <;> with_reducible rfl)
    (try simp only [Act.put, List.setIfInBounds_toArray, List.set_cons_zero, List.set_cons_succ])
    refine takeW (i := 29) (v := ?v29) rfl (by kernel_rfl) (by kernel_rfl) (by kernel_rfl) (fun _ _ _ h => h) (by rfl) (by assumption) ?hy29 ?re29x
    case hy29 => (intro w hSw; (try dsimp only at hSw); go_simp <;> with_reducible rfl)
    (try simp only [Act.put, List.setIfInBounds_toArray, List.set_cons_zero, List.set_cons_succ])
    refine takeW (i := 30) (v := ?v30) rfl (by kernel_rfl) (by kernel_rfl) (by kernel_rfl) (fun _ _ _ h => h) (by rfl) (by assumption) ?hy30 ?re30x
    case hy30 => (intro w hSw; (try dsimp only at hSw); go_simp <;> with_reducible rfl)
    (try simp only [Act.put, List.setIfInBounds_toArray, List.set_cons_zero, List.set_cons_succ])
    refine takeW (i := 33) (v := ?v33) rfl (by kernel_rfl) (by kernel_rfl) (by kernel_rfl) (fun _ _ _ h => h) (by rfl) (by assumption) ?hy33 ?re33x
    case hy33 => (intro w hSw; (try dsimp only at hSw); go_simp <;> with_reducible rfl)
    (try simp only [Act.put, List.setIfInBounds_toArray, List.set_cons_zero, List.set_cons_succ])
    refine takeW (i := 34) (v := ?v34) rfl (by kernel_rfl) (by kernel_rfl) (by kernel_rfl) (fun _ _ _ h => h) (by rfl) (by assumption) ?hy34 ?re34x
    case hy34 => (intro w hSw; (try dsimp only at hSw); go_simp <;> with_reducible rfl)
    (try simp only [Act.put, List.setIfInBounds_toArray, List.set_cons_zero, List.set_cons_succ])
    refine callW (i := 28) rfl (by kernel_rfl) (by rfl) ?re28x
    intro K hK
    go_simp
    refine callsNamed ?_
    intro p15 hp
    clear q_b1_0 q_b1_1 q_b1_2 f_b1_0 f_b1_1 f_b1_2 q_b1 q_b2_0 q_b2_1 q_b2_2 f_b2_0 f_b2_1 f_b2_2 q_b2 q_b3_0 q_b3_1 q_b3_2 f_b3_0 f_b3_1 f_b3_2 q_b3
    have O' : Old w p15 := (by rw [hp]; exact Below.trans (b := w14) O oldB)
    replace B_b1 : Bx p15 (g_b1) #[.bool (sgnZ zr), .slice A1 (len (magZ zr)) c1, .slice D1 (len dr) e1] := (bxK B_b1 hp)
    replace B_b2 : Bx p15 (g_b2) #[.bool (sgnZ zs), .slice A2 (len (magZ zs)) c2, .slice D2 (len ds) e2] := (bxK B_b2 hp)
    replace B_b3 : Bx p15 (g_b3) #[.bool (sgnZ zr), .slice A3 (len (magZ zr)) c3, .slice D3 (len dr) e3] := (bxK B_b3 hp)
    replace r1 := rowK r1 hp
    replace s1 := rowK s1 hp
    replace r2 := rowK r2 hp
    replace s2 := rowK s2 hp
    replace r3 := rowK r3 hp
    replace s3 := rowK s3 hp
    replace r4 := rowK r4 hp
    replace s4 := rowK s4 hp
    replace r5 := rowK r5 hp
    replace s5 := rowK s5 hp
    replace r6 := rowK r6 hp
    replace s6 := rowK s6 hp
    have zp15 : w14.heap.size ≤ p15.heap.size := (by rw [hp]; exact leA)
    clear hp O
    have O := O'
    clear O'
    refine (retF_to HVm.out (impl_RatMin_v zr dr A1 D1 c1 e1 _ _ zs ds A2 D2 c2 e2 _ _ _ r1 s1 Nr.out r2 s2 Ns.out)).mono ?_
    rintro e w15 ⟨⟨A7, c7, D7, e7, rfl, r7, s7, ap7⟩, o15⟩
    replace B_b1 := Bx.old B_b1 o15
    replace B_b2 := Bx.old B_b2 o15
    replace B_b3 := Bx.old B_b3 o15
    replace r1 := Row.below r1 o15 (Nat.le_refl _)
    replace s1 := Row.below s1 o15 (Nat.le_refl _)
    replace r2 := Row.below r2 o15 (Nat.le_refl _)
    replace s2 := Row.below s2 o15 (Nat.le_refl _)
    replace r3 := Row.below r3 o15 (Nat.le_refl _)
    replace s3 := Row.below s3 o15 (Nat.le_refl _)
    replace r4 := Row.below r4 o15 (Nat.le_refl _)
    replace s4 := Row.below s4 o15 (Nat.le_refl _)
    replace r5 := Row.below r5 o15 (Nat.le_refl _)
    replace s5 := Row.below s5 o15 (Nat.le_refl _)
    replace r6 := Row.below r6 o15 (Nat.le_refl _)
    replace s6 := Row.below s6 o15 (Nat.le_refl _)
    replace O := Old.trans O o15
    have zw15 := o15.size
    replace r7 := Row.more (lo' := p15.heap.size) r7 leA
    replace s7 := Row.more (lo' := p15.heap.size) s7 leA
    have lim_r7 := Row.lim r7
    have lim_s7 := Row.lim s7
    clear ap7
    obtain ⟨q_b1_0, q_b1_1, q_b1_2, f_b1_0, f_b1_1, f_b1_2, q_b1⟩ := B_b1.all3
    obtain ⟨q_b2_0, q_b2_1, q_b2_2, f_b2_0, f_b2_1, f_b2_2, q_b2⟩ := B_b2.all3
    obtain ⟨q_b3_0, q_b3_1, q_b3_2, f_b3_0, f_b3_1, f_b3_2, q_b3⟩ := B_b3.all3
    go_wp2_with fail
    refine hK.out _ _ ?hS28x (fun hHeld2 => ?re28y)
    case hS28x => (try dsimp only); go_keep
    clear hK K hHeld
    have hHeld := hHeld2
    clear hHeld2
    (try simp only [Act.put, List.setIfInBounds_toArray, List.set_cons_zero, List.set_cons_succ])
    refine callW (i := 31) rfl (by kernel_rfl) (by rfl) ?re31x
    intro K hK
    go_simp
    refine callsNamed ?_
    intro p16 hp
    clear q_b1_0 q_b1_1 q_b1_2 f_b1_0 f_b1_1 f_b1_2 q_b1 q_b2_0 q_b2_1 q_b2_2 f_b2_0 f_b2_1 f_b2_2 q_b2 q_b3_0 q_b3_1 q_b3_2 f_b3_0 f_b3_1 f_b3_2 q_b3
    have O' : Old w p16 := (by rw [hp]; exact Below.trans (b := w15) O oldB)
    replace B_b1 : Bx p16 (g_b1) #[.bool (sgnZ zr), .slice A1 (len (magZ zr)) c1, .slice D1 (len dr) e1] := (bxK B_b1 hp)
    replace B_b2 : Bx p16 (g_b2) #[.bool (sgnZ zs), .slice A2 (len (magZ zs)) c2, .slice D2 (len ds) e2] := (bxK B_b2 hp)
    replace B_b3 : Bx p16 (g_b3) #[.bool (sgnZ zr), .slice A3 (len (magZ zr)) c3, .slice D3 (len dr) e3] := (bxK B_b3 hp)
    replace r1 := rowK r1 hp
    replace s1 := rowK s1 hp
    replace r2 := rowK r2 hp
    replace s2 := rowK s2 hp
    replace r3 := rowK r3 hp
    replace s3 := rowK s3 hp
    replace r4 := rowK r4 hp
    replace s4 := rowK s4 hp
    replace r5 := rowK r5 hp
    replace s5 := rowK s5 hp
    replace r6 := rowK r6 hp
    replace s6 := rowK s6 hp
    replace r7 := rowK r7 hp
    replace s7 := rowK s7 hp
    have zp16 : w15.heap.size ≤ p16.heap.size := (by rw [hp]; exact leA)
    clear hp O
    have O := O'
    clear O'
    refine (retF_to HVk.out (impl_RatMax_v zr dr A1 D1 c1 e1 _ _ zs ds A2 D2 c2 e2 _ _ _ r1 s1 Nr.out r2 s2 Ns.out)).mono ?_
    rintro e w16 ⟨⟨A8, c8, D8, e8, rfl, r8, s8, ap8⟩, o16⟩
    replace B_b1 := Bx.old B_b1 o16
    replace B_b2 := Bx.old B_b2 o16
    replace B_b3 := Bx.old B_b3 o16
    replace r1 := Row.below r1 o16 (Nat.le_refl _)
    replace s1 := Row.below s1 o16 (Nat.le_refl _)
    replace r2 := Row.below r2 o16 (Nat.le_refl _)
    replace s2 := Row.below s2 o16 (Nat.le_refl _)
    replace r3 := Row.below r3 o16 (Nat.le_refl _)
    replace s3 := Row.below s3 o16 (Nat.le_refl _)
    replace r4 := Row.below r4 o16 (Nat.le_refl _)
    replace s4 := Row.below s4 o16 (Nat.le_refl _)
    replace r5 := Row.below r5 o16 (Nat.le_refl _)
    replace s5 := Row.below s5 o16 (Nat.le_refl _)
    replace r6 := Row.below r6 o16 (Nat.le_refl _)
    replace s6 := Row.below s6 o16 (Nat.le_refl _)
    replace r7 := Row.below r7 o16 (Nat.le_refl _)
    replace s7 := Row.below s7 o16 (Nat.le_refl _)
    replace O := Old.trans O o16
    have zw16 := o16.size
    replace r8 := Row.more (lo' := p16.heap.size) r8 leA
    replace s8 := Row.more (lo' := p16.heap.size) s8 leA
    have lim_r8 := Row.lim r8
    have lim_s8 := Row.lim s8
    clear ap8
    obtain ⟨q_b1_0, q_b1_1, q_b1_2, f_b1_0, f_b1_1, f_b1_2, q_b1⟩ := B_b1.all3
    obtain ⟨q_b2_0, q_b2_1, q_b2_2, f_b2_0, f_b2_1, f_b2_2, q_b2⟩ := B_b2.all3
    obtain ⟨q_b3_0, q_b3_1, q_b3_2, f_b3_0, f_b3_1, f_b3_2, q_b3⟩ := B_b3.all3
    go_wp2_with fail
    refine hK.out _ _ ?hS31x (fun hHeld2 => ?re31y)
    case hS31x => (try dsimp only); go_keep
    clear hK K hHeld
    have hHeld := hHeld2
    clear hHeld2
    (try simp only [Act.put, List.setIfInBounds_toArray, List.set_cons_zero, List.set_cons_succ])
    refine callW (i := 32) rfl (by kernel_rfl) (by rfl) ?re32x
    intro K hK
    go_simp
    refine callsNamed ?_
    intro p17 hp
    clear q_b1_0 q_b1_1 q_b1_2 f_b1_0 f_b1_1 f_b1_2 q_b1 q_b2_0 q_b2_1 q_b2_2 f_b2_0 f_b2_1 f_b2_2 q_b2 q_b3_0 q_b3_1 q_b3_2 f_b3_0 f_b3_1 f_b3_2 q_b3
    have O' : Old w p17 := (by rw [hp]; exact Below.trans (b := w16) O oldB)
    replace B_b1 : Bx p17 (g_b1) #[.bool (sgnZ zr), .slice A1 (len (magZ zr)) c1, .slice D1 (len dr) e1] := (bxK B_b1 hp)
    replace B_b2 : Bx p17 (g_b2) #[.bool (sgnZ zs), .slice A2 (len (magZ zs)) c2, .slice D2 (len ds) e2] := (bxK B_b2 hp)
    replace B_b3 : Bx p17 (g_b3) #[.bool (sgnZ zr), .slice A3 (len (magZ zr)) c3, .slice D3 (len dr) e3] := (bxK B_b3 hp)
    replace r1 := rowK r1 hp
    replace s1 := rowK s1 hp
    replace r2 := rowK r2 hp
    replace s2 := rowK s2 hp
    replace r3 := rowK r3 hp
    replace s3 := rowK s3 hp
    replace r4 := rowK r4 hp
    replace s4 := rowK s4 hp
    replace r5 := rowK r5 hp
    replace s5 := rowK s5 hp
    replace r6 := rowK r6 hp
    replace s6 := rowK s6 hp
    replace r7 := rowK r7 hp
    replace s7 := rowK s7 hp
    replace r8 := rowK r8 hp
    replace s8 := rowK s8 hp
    have zp17 : w16.heap.size ≤ p17.heap.size := (by rw [hp]; exact leA)
    clear hp O
    have O := O'
    clear O'
    refine (retF_to H5.out (impl_RatAdd_v zm dm A7 D7 c7 e7 _ _ zk dk A8 D8 c8 e8 _ _ _ r7 s7 Nm.out r8 s8 Nk.out)).mono ?_
    rintro e w17 ⟨⟨A9, c9, D9, e9, rfl, r9, s9, ap9⟩, o17⟩
    replace B_b1 := Bx.old B_b1 o17
    replace B_b2 := Bx.old B_b2 o17
    replace B_b3 := Bx.old B_b3 o17
    replace r1 := Row.below r1 o17 (Nat.le_refl _)
    replace s1 := Row.below s1 o17 (Nat.le_refl _)
    replace r2 := Row.below r2 o17 (Nat.le_refl _)
    replace s2 := Row.below s2 o17 (Nat.le_refl _)
    replace r3 := Row.below r3 o17 (Nat.le_refl _)
    replace s3 := Row.below s3 o17 (Nat.le_refl _)
    replace r4 := Row.below r4 o17 (Nat.le_refl _)
    replace s4 := Row.below s4 o17 (Nat.le_refl _)
    replace r5 := Row.below r5 o17 (Nat.le_refl _)
    replace s5 := Row.below s5 o17 (Nat.le_refl _)
    replace r6 := Row.below r6 o17 (Nat.le_refl _)
    replace s6 := Row.below s6 o17 (Nat.le_refl _)
    replace r7 := Row.below r7 o17 (Nat.le_refl _)
    replace s7 := Row.below s7 o17 (Nat.le_refl _)
    replace r8 := Row.below r8 o17 (Nat.le_refl _)
    replace s8 := Row.below s8 o17 (Nat.le_refl _)
    replace O := Old.trans O o17
    have zw17 := o17.size
    replace r9 := Row.more (lo' := p17.heap.size) r9 leA
    replace s9 := Row.more (lo' := p17.heap.size) s9 leA
    have lim_r9 := Row.lim r9
    have lim_s9 := Row.lim s9
    clear ap9
    obtain ⟨q_b1_0, q_b1_1, q_b1_2, f_b1_0, f_b1_1, f_b1_2, q_b1⟩ := B_b1.all3
    obtain ⟨q_b2_0, q_b2_1, q_b2_2, f_b2_0, f_b2_1, f_b2_2, q_b2⟩ := B_b2.all3
    obtain ⟨q_b3_0, q_b3_1, q_b3_2, f_b3_0, f_b3_1, f_b3_2, q_b3⟩ := B_b3.all3
    go_wp2_with fail
    refine hK.out _ _ ?hS32x (fun hHeld2 => ?re32y)
    case hS32x => (try dsimp only); go_keep
    clear hK K hHeld
    have hHeld := hHeld2
    clear hHeld2
    (try simp only [Act.put, List.setIfInBounds_toArray, List.set_cons_zero, List.set_cons_succ])
    refine callW (i := 35) rfl (by kernel_rfl) (by rfl) ?re35x
    intro K hK
    go_simp
    refine callsNamed ?_
    intro p18 hp
    clear q_b1_0 q_b1_1 q_b1_2 f_b1_0 f_b1_1 f_b1_2 q_b1 q_b2_0 q_b2_1 q_b2_2 f_b2_0 f_b2_1 f_b2_2 q_b2 q_b3_0 q_b3_1 q_b3_2 f_b3_0 f_b3_1 f_b3_2 q_b3
    have O' : Old w p18 := (by rw [hp]; exact Below.trans (b := w17) O oldB)
    replace B_b1 : Bx p18 (g_b1) #[.bool (sgnZ zr), .slice A1 (len (magZ zr)) c1, .slice D1 (len dr) e1] := (bxK B_b1 hp)
    replace B_b2 : Bx p18 (g_b2) #[.bool (sgnZ zs), .slice A2 (len (magZ zs)) c2, .slice D2 (len ds) e2] := (bxK B_b2 hp)
    replace B_b3 : Bx p18 (g_b3) #[.bool (sgnZ zr), .slice A3 (len (magZ zr)) c3, .slice D3 (len dr) e3] := (bxK B_b3 hp)
    replace r1 := rowK r1 hp
    replace s1 := rowK s1 hp
    replace r2 := rowK r2 hp
    replace s2 := rowK s2 hp
    replace r3 := rowK r3 hp
    replace s3 := rowK s3 hp
    replace r4 := rowK r4 hp
    replace s4 := rowK s4 hp
    replace r5 := rowK r5 hp
    replace s5 := rowK s5 hp
    replace r6 := rowK r6 hp
    replace s6 := rowK s6 hp
    replace r7 := rowK r7 hp
    replace s7 := rowK s7 hp
    replace r8 := rowK r8 hp
    replace s8 := rowK s8 hp
    replace r9 := rowK r9 hp
    replace s9 := rowK s9 hp
    have zp18 : w17.heap.size ≤ p18.heap.size := (by rw [hp]; exact leA)
    clear hp O
    have O := O'
    clear O'
    refine (retF_to HVa.out (impl_RatAdd_v zr dr A1 D1 c1 e1 _ _ zs ds A2 D2 c2 e2 _ _ _ r1 s1 Nr.out r2 s2 Ns.out)).mono ?_
    rintro e w18 ⟨⟨A10, c10, D10, e10, rfl, r10, s10, ap10⟩, o18⟩
    replace B_b1 := Bx.old B_b1 o18
    replace B_b2 := Bx.old B_b2 o18
    replace B_b3 := Bx.old B_b3 o18
    replace r1 := Row.below r1 o18 (Nat.le_refl _)
    replace s1 := Row.below s1 o18 (Nat.le_refl _)
    replace r2 := Row.below r2 o18 (Nat.le_refl _)
    replace s2 := Row.below s2 o18 (Nat.le_refl _)
    replace r3 := Row.below r3 o18 (Nat.le_refl _)
    replace s3 := Row.below s3 o18 (Nat.le_refl _)
    replace r4 := Row.below r4 o18 (Nat.le_refl _)
    replace s4 := Row.below s4 o18 (Nat.le_refl _)
    replace r5 := Row.below r5 o18 (Nat.le_refl _)
    replace s5 := Row.below s5 o18 (Nat.le_refl _)
    replace r6 := Row.below r6 o18 (Nat.le_refl _)
    replace s6 := Row.below s6 o18 (Nat.le_refl _)
    replace r7 := Row.below r7 o18 (Nat.le_refl _)
    replace s7 := Row.below s7 o18 (Nat.le_refl _)
    replace r8 := Row.below r8 o18 (Nat.le_refl _)
    replace s8 := Row.below s8 o18 (Nat.le_refl _)
    replace r9 := Row.below r9 o18 (Nat.le_refl _)
    replace s9 := Row.below s9 o18 (Nat.le_refl _)
    replace O := Old.trans O o18
    have zw18 := o18.size
    replace r10 := Row.more (lo' := p18.heap.size) r10 leA
    replace s10 := Row.more (lo' := p18.heap.size) s10 leA
    have lim_r10 := Row.lim r10
    have lim_s10 := Row.lim s10
    clear ap10
    obtain ⟨q_b1_0, q_b1_1, q_b1_2, f_b1_0, f_b1_1, f_b1_2, q_b1⟩ := B_b1.all3
    obtain ⟨q_b2_0, q_b2_1, q_b2_2, f_b2_0, f_b2_1, f_b2_2, q_b2⟩ := B_b2.all3
    obtain ⟨q_b3_0, q_b3_1, q_b3_2, f_b3_0, f_b3_1, f_b3_2, q_b3⟩ := B_b3.all3
    go_wp2_with fail
    refine hK.out _ _ ?hS35x (fun hHeld2 => ?re35y)
    case hS35x => (try dsimp only); go_keep
    clear hK K hHeld
    have hHeld := hHeld2
    clear hHeld2
    (try simp only [Act.put, List.setIfInBounds_toArray, List.set_cons_zero, List.set_cons_succ])
    refine callW (i := 36) rfl (by kernel_rfl) (by rfl) ?re36x
    intro K hK
    go_simp
    refine callsNamed ?_
    intro p19 hp
    clear q_b1_0 q_b1_1 q_b1_2 f_b1_0 f_b1_1 f_b1_2 q_b1 q_b2_0 q_b2_1 q_b2_2 f_b2_0 f_b2_1 f_b2_2 q_b2 q_b3_0 q_b3_1 q_b3_2 f_b3_0 f_b3_1 f_b3_2 q_b3
    have O' : Old w p19 := (by rw [hp]; exact Below.trans (b := w18) O oldB)
    replace B_b1 : Bx p19 (g_b1) #[.bool (sgnZ zr), .slice A1 (len (magZ zr)) c1, .slice D1 (len dr) e1] := (bxK B_b1 hp)
    replace B_b2 : Bx p19 (g_b2) #[.bool (sgnZ zs), .slice A2 (len (magZ zs)) c2, .slice D2 (len ds) e2] := (bxK B_b2 hp)
    replace B_b3 : Bx p19 (g_b3) #[.bool (sgnZ zr), .slice A3 (len (magZ zr)) c3, .slice D3 (len dr) e3] := (bxK B_b3 hp)
    replace r1 := rowK r1 hp
    replace s1 := rowK s1 hp
    replace r2 := rowK r2 hp
    replace s2 := rowK s2 hp
    replace r3 := rowK r3 hp
    replace s3 := rowK s3 hp
    replace r4 := rowK r4 hp
    replace s4 := rowK s4 hp
    replace r5 := rowK r5 hp
    replace s5 := rowK s5 hp
    replace r6 := rowK r6 hp
    replace s6 := rowK s6 hp
    replace r7 := rowK r7 hp
    replace s7 := rowK s7 hp
    replace r8 := rowK r8 hp
    replace s8 := rowK s8 hp
    replace r9 := rowK r9 hp
    replace s9 := rowK s9 hp
    replace r10 := rowK r10 hp
    replace s10 := rowK s10 hp
    have zp19 : w18.heap.size ≤ p19.heap.size := (by rw [hp]; exact leA)
    clear hp O
    have O := O'
    clear O'
    refine (ratEq_v za da A9 D9 c9 e9 _ _ A10 D10 c10 e10 _ _ _ r9 s9 r10 s10 Na.out).mono ?_
    rintro e w19 ⟨rfl, o19⟩
    replace B_b1 := Bx.old B_b1 o19
    replace B_b2 := Bx.old B_b2 o19
    replace B_b3 := Bx.old B_b3 o19
    replace r1 := Row.below r1 o19 (Nat.le_refl _)
    replace s1 := Row.below s1 o19 (Nat.le_refl _)
    replace r2 := Row.below r2 o19 (Nat.le_refl _)
    replace s2 := Row.below s2 o19 (Nat.le_refl _)
    replace r3 := Row.below r3 o19 (Nat.le_refl _)
    replace s3 := Row.below s3 o19 (Nat.le_refl _)
    replace r4 := Row.below r4 o19 (Nat.le_refl _)
    replace s4 := Row.below s4 o19 (Nat.le_refl _)
    replace r5 := Row.below r5 o19 (Nat.le_refl _)
    replace s5 := Row.below s5 o19 (Nat.le_refl _)
    replace r6 := Row.below r6 o19 (Nat.le_refl _)
    replace s6 := Row.below s6 o19 (Nat.le_refl _)
    replace r7 := Row.below r7 o19 (Nat.le_refl _)
    replace s7 := Row.below s7 o19 (Nat.le_refl _)
    replace r8 := Row.below r8 o19 (Nat.le_refl _)
    replace s8 := Row.below s8 o19 (Nat.le_refl _)
    replace r9 := Row.below r9 o19 (Nat.le_refl _)
    replace s9 := Row.below s9 o19 (Nat.le_refl _)
    replace r10 := Row.below r10 o19 (Nat.le_refl _)
    replace s10 := Row.below s10 o19 (Nat.le_refl _)
    replace O := Old.trans O o19
    have zw19 := o19.size
    obtain ⟨q_b1_0, q_b1_1, q_b1_2, f_b1_0, f_b1_1, f_b1_2, q_b1⟩ := B_b1.all3
    obtain ⟨q_b2_0, q_b2_1, q_b2_2, f_b2_0, f_b2_1, f_b2_2, q_b2⟩ := B_b2.all3
    obtain ⟨q_b3_0, q_b3_1, q_b3_2, f_b3_0, f_b3_1, f_b3_2, q_b3⟩ := B_b3.all3
    go_wp2_with fail
    refine hK.out _ _ ?hS36x (fun hHeld2 => ?re36y)
    case hS36x => (try dsimp only); go_keep
    clear hK K hHeld
    have hHeld := hHeld2
    clear hHeld2
    (try simp only [Act.put, List.setIfInBounds_toArray, List.set_cons_zero, List.set_cons_succ])
    refine takeW (i := 37) (v := ?v37) rfl (by kernel_rfl) (by kernel_rfl) (by kernel_rfl) (fun _ _ _ h => h) (by rfl) (by assumption) ?hy37 ?re37x
    case hy37 => (intro w hSw; (try dsimp only at hSw); go_simp <;> with_reducible rfl)
    (try simp only [Act.put, List.setIfInBounds_toArray, List.set_cons_zero, List.set_cons_succ])
    refine takeW (i := 38) (v := ?v38) rfl (by kernel_rfl) (by kernel_rfl) (by kernel_rfl) (fun _ _ _ h => h) (by rfl) (by assumption) ?hy38 ?re38x
    case hy38 => (intro w hSw; (try dsimp only at hSw); go_simp <;> with_reducible rfl)
    (try simp only [Act.put, List.setIfInBounds_toArray, List.set_cons_zero, List.set_cons_succ])
    refine takeW (i := 39) (v := ?v39) rfl (by kernel_rfl) (by kernel_rfl) (by kernel_rfl) (fun _ _ _ h => h) (by rfl) (by assumption) ?hy39 ?re39x
    case hy39 => (intro w hSw; (try dsimp only at hSw); go_simp <;> with_reducible rfl)
    (try simp only [Act.put, List.setIfInBounds_toArray, List.set_cons_zero, List.set_cons_succ])
    refine callW (i := 40) rfl (by kernel_rfl) (by rfl) ?re40x
    intro K hK
    go_simp
    refine callsNamed ?_
    intro p20 hp
    clear q_b1_0 q_b1_1 q_b1_2 f_b1_0 f_b1_1 f_b1_2 q_b1 q_b2_0 q_b2_1 q_b2_2 f_b2_0 f_b2_1 f_b2_2 q_b2 q_b3_0 q_b3_1 q_b3_2 f_b3_0 f_b3_1 f_b3_2 q_b3
    have O' : Old w p20 := (by rw [hp]; exact Below.trans (b := w19) O oldB)
    replace B_b1 : Bx p20 (g_b1) #[.bool (sgnZ zr), .slice A1 (len (magZ zr)) c1, .slice D1 (len dr) e1] := (bxK B_b1 hp)
    replace B_b2 : Bx p20 (g_b2) #[.bool (sgnZ zs), .slice A2 (len (magZ zs)) c2, .slice D2 (len ds) e2] := (bxK B_b2 hp)
    replace B_b3 : Bx p20 (g_b3) #[.bool (sgnZ zr), .slice A3 (len (magZ zr)) c3, .slice D3 (len dr) e3] := (bxK B_b3 hp)
    replace r1 := rowK r1 hp
    replace s1 := rowK s1 hp
    replace r2 := rowK r2 hp
    replace s2 := rowK s2 hp
    replace r3 := rowK r3 hp
    replace s3 := rowK s3 hp
    replace r4 := rowK r4 hp
    replace s4 := rowK s4 hp
    replace r5 := rowK r5 hp
    replace s5 := rowK s5 hp
    replace r6 := rowK r6 hp
    replace s6 := rowK s6 hp
    replace r7 := rowK r7 hp
    replace s7 := rowK s7 hp
    replace r8 := rowK r8 hp
    replace s8 := rowK s8 hp
    replace r9 := rowK r9 hp
    replace s9 := rowK s9 hp
    replace r10 := rowK r10 hp
    replace s10 := rowK s10 hp
    have zp20 : w19.heap.size ≤ p20.heap.size := (by rw [hp]; exact leA)
    clear hp O
    have O := O'
    clear O'
    refine (plain_to (by rw [HS.out]) (impl_RatSign_v zs ds A2 D2 c2 e2 _ _ _ r2 s2 Ns.out)).mono ?_
    rintro e w20 ⟨rfl, o20⟩
    replace B_b1 := Bx.old B_b1 o20
    replace B_b2 := Bx.old B_b2 o20
    replace B_b3 := Bx.old B_b3 o20
    replace r1 := Row.below r1 o20 (Nat.le_refl _)
    replace s1 := Row.below s1 o20 (Nat.le_refl _)
    replace r2 := Row.below r2 o20 (Nat.le_refl _)
    replace s2 := Row.below s2 o20 (Nat.le_refl _)
    replace r3 := Row.below r3 o20 (Nat.le_refl _)
    replace s3 := Row.below s3 o20 (Nat.le_refl _)
    replace r4 := Row.below r4 o20 (Nat.le_refl _)
    replace s4 := Row.below s4 o20 (Nat.le_refl _)
    replace r5 := Row.below r5 o20 (Nat.le_refl _)
    replace s5 := Row.below s5 o20 (Nat.le_refl _)
    replace r6 := Row.below r6 o20 (Nat.le_refl _)
    replace s6 := Row.below s6 o20 (Nat.le_refl _)
    replace r7 := Row.below r7 o20 (Nat.le_refl _)
    replace s7 := Row.below s7 o20 (Nat.le_refl _)
    replace r8 := Row.below r8 o20 (Nat.le_refl _)
    replace s8 := Row.below s8 o20 (Nat.le_refl _)
    replace r9 := Row.below r9 o20 (Nat.le_refl _)
    replace s9 := Row.below s9 o20 (Nat.le_refl _)
    replace r10 := Row.below r10 o20 (Nat.le_refl _)
    replace s10 := Row.below s10 o20 (Nat.le_refl _)
    replace O := Old.trans O o20
    have zw20 := o20.size
    obtain ⟨q_b1_0, q_b1_1, q_b1_2, f_b1_0, f_b1_1, f_b1_2, q_b1⟩ := B_b1.all3
    obtain ⟨q_b2_0, q_b2_1, q_b2_2, f_b2_0, f_b2_1, f_b2_2, q_b2⟩ := B_b2.all3
    obtain ⟨q_b3_0, q_b3_1, q_b3_2, f_b3_0, f_b3_1, f_b3_2, q_b3⟩ := B_b3.all3
    go_wp2_with fail
    refine hK.out _ _ ?hS40x (fun hHeld2 => ?re40y)
    case hS40x => (try dsimp only); go_keep
    clear hK K hHeld
    have hHeld := hHeld2
    clear hHeld2
    (try simp only [Act.put, List.setIfInBounds_toArray, List.set_cons_zero, List.set_cons_succ])
    refine takeW (i := 41) (v := ?v41) rfl (by kernel_rfl) (by kernel_rfl) (by kernel_rfl) (fun _ _ _ h => h) (by rfl) (by assumption) ?hy41 ?re41x
    case hy41 => (intro w hSw; (try dsimp only at hSw); go_simp <;> with_reducible rfl)
    (try simp only [Act.put, List.setIfInBounds_toArray, List.set_cons_zero, List.set_cons_succ])
    refine takeW (i := 42) (v := ?v42) rfl (by kernel_rfl) (by kernel_rfl) (by kernel_rfl) (fun _ _ _ h => h) (by rfl) (by assumption) ?hy42 ?re42x
    case hy42 => (intro w hSw; (try dsimp only at hSw); go_simp <;> with_reducible rfl)
    (try simp only [Act.put, List.setIfInBounds_toArray, List.set_cons_zero, List.set_cons_succ])
    refine takeN (i := 43) rfl (by kernel_rfl) (by kernel_rfl) (by kernel_rfl) (fun _ _ _ h => h) (by rfl) (by assumption) ?re43x
    (try simp only [Act.put, List.setIfInBounds_toArray, List.set_cons_zero, List.set_cons_succ])
    refine takeN (i := 44) rfl (by kernel_rfl) (by kernel_rfl) (by kernel_rfl) (fun _ _ _ h => h) (by rfl) (by assumption) ?re44x
    (try simp only [Act.put, List.setIfInBounds_toArray, List.set_cons_zero, List.set_cons_succ])
    refine takeN (i := 46) rfl (by kernel_rfl) (by kernel_rfl) (by kernel_rfl) (fun _ _ _ h => h) (by rfl) (by assumption) ?re46x
    (try simp only [Act.put, List.setIfInBounds_toArray, List.set_cons_zero, List.set_cons_succ])
    refine takeN (i := 48) rfl (by kernel_rfl) (by kernel_rfl) (by kernel_rfl) (fun _ _ _ h => h) (by rfl) (by assumption) ?re48x
    (try simp only [Act.put, List.setIfInBounds_toArray, List.set_cons_zero, List.set_cons_succ])
    refine skipN (i := 45) rfl (by kernel_rfl) (by rfl) (by assumption) ?re45x
    (try simp only [Act.put, List.setIfInBounds_toArray, List.set_cons_zero, List.set_cons_succ])
    refine skipN (i := 47) rfl (by kernel_rfl) (by rfl) (by assumption) ?re47x
    (try simp only [Act.put, List.setIfInBounds_toArray, List.set_cons_zero, List.set_cons_succ])
    refine skipN (i := 49) rfl (by kernel_rfl) (by rfl) (by assumption) ?re49x
    (try simp only [Act.put, List.setIfInBounds_toArray, List.set_cons_zero, List.set_cons_succ])
    refine takeW (i := 50) (v := ?v50) rfl (by kernel_rfl) (by kernel_rfl) (by kernel_rfl) (fun _ _ _ h => h) (by rfl) (by assumption) ?hy50 ?re50x
    case hy50 => (intro w hSw; (try dsimp only at hSw); go_simp <;> with_reducible rfl)
    (try simp only [Act.put, List.setIfInBounds_toArray, List.set_cons_zero, List.set_cons_succ])
    refine takeW (i := 51) (v := ?v51) rfl (by kernel_rfl) (by kernel_rfl) (by kernel_rfl) (fun _ _ _ h => h) (by rfl) (by assumption) ?hy51 ?re51x
    case hy51 => (intro w hSw; (try dsimp only at hSw); go_simp <;> with_reducible rfl)
    (try simp only [Act.put, List.setIfInBounds_toArray, List.set_cons_zero, List.set_cons_succ])
    refine takeW (i := 52) (v := ?v52) rfl (by kernel_rfl) (by kernel_rfl) (by kernel_rfl) (fun _ _ _ h => h) (by rfl) (by assumption) ?hy52 ?re52x
    case hy52 => (intro w hSw; (try dsimp only at hSw); go_simp <;> with_reducible rfl)
    (try simp only [Act.put, List.setIfInBounds_toArray, List.set_cons_zero, List.set_cons_succ])
    refine wpAnyH_done (by kernel_rfl) ?_ _
    go_wp2
    go_ret
    exact ⟨rfl, Below.trans (b := w20) O oldB⟩
  case neg =>
    have hq0 : (ss == 0) = false := by simpa using hs0
    have H7 : Hid (mulF (zq, dq) (zs, ds) = (zr, dr)) := Lib.hid (H6.out.resolve_left hs0)
    clear H6
    go_wp2_with fail
    go_region_held3 (fun w' => w'.cell? ⟨g_b1, 0, none⟩ = some (.bool (sgnZ zr)) ∧ w'.cell? ⟨g_b1, 1, none⟩ = some (.slice A1 (len (magZ zr)) c1) ∧ w'.cell? ⟨g_b1, 2, none⟩ = some (.slice D1 (len dr) e1) ∧ w'.cell? ⟨g_b2, 0, none⟩ = some (.bool (sgnZ zs)) ∧ w'.cell? ⟨g_b2, 1, none⟩ = some (.slice A2 (len (magZ zs)) c2) ∧ w'.cell? ⟨g_b2, 2, none⟩ = some (.slice D2 (len ds) e2) ∧ w'.cell? ⟨g_b3, 0, none⟩ = some (.bool (sgnZ zr)) ∧ w'.cell? ⟨g_b3, 1, none⟩ = some (.slice A3 (len (magZ zr)) c3) ∧ w'.cell? ⟨g_b3, 2, none⟩ = some (.slice D3 (len dr) e3)) (go_keep)
      (first
       | (go_at_call 12; refine callsNamed ?_; intro p8 hp; clear q_b1_0 q_b1_1 q_b1_2 f_b1_0 f_b1_1 f_b1_2 q_b1 q_b2_0 q_b2_1 q_b2_2 f_b2_0 f_b2_1 f_b2_2 q_b2 q_b3_0 q_b3_1 q_b3_2 f_b3_0 f_b3_1 f_b3_2 q_b3; have O' : Old w p8 := (by rw [hp]; exact Below.trans (b := w7) O oldB); replace B_b1 : Bx p8 (g_b1) #[.bool (sgnZ zr), .slice A1 (len (magZ zr)) c1, .slice D1 (len dr) e1] := (bxK B_b1 hp); replace B_b2 : Bx p8 (g_b2) #[.bool (sgnZ zs), .slice A2 (len (magZ zs)) c2, .slice D2 (len ds) e2] := (bxK B_b2 hp); replace B_b3 : Bx p8 (g_b3) #[.bool (sgnZ zr), .slice A3 (len (magZ zr)) c3, .slice D3 (len dr) e3] := (bxK B_b3 hp); replace r1 := rowK r1 hp; replace s1 := rowK s1 hp; replace r2 := rowK r2 hp; replace s2 := rowK s2 hp; replace r3 := rowK r3 hp; replace s3 := rowK s3 hp; have zp8 : w7.heap.size ≤ p8.heap.size := (by rw [hp]; exact leA); clear hp O; have O := O'; clear O'; (with_reducible refine (ratEq_v zr dr A3 D3 c3 e3 _ _ A1 D1 c1 e1 _ _ _ r3 s3 r1 s1 Nr.out).mono ?_); rintro e w8 ⟨rfl, o8⟩; replace B_b1 := Bx.old B_b1 o8; replace B_b2 := Bx.old B_b2 o8; replace B_b3 := Bx.old B_b3 o8; replace r1 := Row.below r1 o8 (Nat.le_refl _); replace s1 := Row.below s1 o8 (Nat.le_refl _); replace r2 := Row.below r2 o8 (Nat.le_refl _); replace s2 := Row.below s2 o8 (Nat.le_refl _); replace r3 := Row.below r3 o8 (Nat.le_refl _); replace s3 := Row.below s3 o8 (Nat.le_refl _); replace O := Old.trans O o8; have zw8 := o8.size; obtain ⟨q_b1_0, q_b1_1, q_b1_2, f_b1_0, f_b1_1, f_b1_2, q_b1⟩ := B_b1.all3; obtain ⟨q_b2_0, q_b2_1, q_b2_2, f_b2_0, f_b2_1, f_b2_2, q_b2⟩ := B_b2.all3; obtain ⟨q_b3_0, q_b3_1, q_b3_2, f_b3_0, f_b3_1, f_b3_2, q_b3⟩ := B_b3.all3)
       | (go_at_call 14; refine callsNamed ?_; intro p9 hp; clear q_b1_0 q_b1_1 q_b1_2 f_b1_0 f_b1_1 f_b1_2 q_b1 q_b2_0 q_b2_1 q_b2_2 f_b2_0 f_b2_1 f_b2_2 q_b2 q_b3_0 q_b3_1 q_b3_2 f_b3_0 f_b3_1 f_b3_2 q_b3; have O' : Old w p9 := (by rw [hp]; exact Below.trans (b := w8) O oldB); replace B_b1 : Bx p9 (g_b1) #[.bool (sgnZ zr), .slice A1 (len (magZ zr)) c1, .slice D1 (len dr) e1] := (bxK B_b1 hp); replace B_b2 : Bx p9 (g_b2) #[.bool (sgnZ zs), .slice A2 (len (magZ zs)) c2, .slice D2 (len ds) e2] := (bxK B_b2 hp); replace B_b3 : Bx p9 (g_b3) #[.bool (sgnZ zr), .slice A3 (len (magZ zr)) c3, .slice D3 (len dr) e3] := (bxK B_b3 hp); replace r1 := rowK r1 hp; replace s1 := rowK s1 hp; replace r2 := rowK r2 hp; replace s2 := rowK s2 hp; replace r3 := rowK r3 hp; replace s3 := rowK s3 hp; have zp9 : w8.heap.size ≤ p9.heap.size := (by rw [hp]; exact leA); clear hp O; have O := O'; clear O'; (with_reducible refine (retF_to HVa.out (impl_RatAdd_v zr dr A1 D1 c1 e1 _ _ zs ds A2 D2 c2 e2 _ _ _ r1 s1 Nr.out r2 s2 Ns.out)).mono ?_); rintro e w9 ⟨⟨A4, c4, D4, e4, rfl, r4, s4, ap4⟩, o9⟩; replace B_b1 := Bx.old B_b1 o9; replace B_b2 := Bx.old B_b2 o9; replace B_b3 := Bx.old B_b3 o9; replace r1 := Row.below r1 o9 (Nat.le_refl _); replace s1 := Row.below s1 o9 (Nat.le_refl _); replace r2 := Row.below r2 o9 (Nat.le_refl _); replace s2 := Row.below s2 o9 (Nat.le_refl _); replace r3 := Row.below r3 o9 (Nat.le_refl _); replace s3 := Row.below s3 o9 (Nat.le_refl _); replace O := Old.trans O o9; have zw9 := o9.size; replace r4 := Row.more (lo' := p9.heap.size) r4 leA; replace s4 := Row.more (lo' := p9.heap.size) s4 leA; have lim_r4 := Row.lim r4; have lim_s4 := Row.lim s4; clear ap4; obtain ⟨q_b1_0, q_b1_1, q_b1_2, f_b1_0, f_b1_1, f_b1_2, q_b1⟩ := B_b1.all3; obtain ⟨q_b2_0, q_b2_1, q_b2_2, f_b2_0, f_b2_1, f_b2_2, q_b2⟩ := B_b2.all3; obtain ⟨q_b3_0, q_b3_1, q_b3_2, f_b3_0, f_b3_1, f_b3_2, q_b3⟩ := B_b3.all3)
       | (go_at_call 13; refine callsNamed ?_; intro p10 hp; clear q_b1_0 q_b1_1 q_b1_2 f_b1_0 f_b1_1 f_b1_2 q_b1 q_b2_0 q_b2_1 q_b2_2 f_b2_0 f_b2_1 f_b2_2 q_b2 q_b3_0 q_b3_1 q_b3_2 f_b3_0 f_b3_1 f_b3_2 q_b3; have O' : Old w p10 := (by rw [hp]; exact Below.trans (b := w9) O oldB); replace B_b1 : Bx p10 (g_b1) #[.bool (sgnZ zr), .slice A1 (len (magZ zr)) c1, .slice D1 (len dr) e1] := (bxK B_b1 hp); replace B_b2 : Bx p10 (g_b2) #[.bool (sgnZ zs), .slice A2 (len (magZ zs)) c2, .slice D2 (len ds) e2] := (bxK B_b2 hp); replace B_b3 : Bx p10 (g_b3) #[.bool (sgnZ zr), .slice A3 (len (magZ zr)) c3, .slice D3 (len dr) e3] := (bxK B_b3 hp); replace r1 := rowK r1 hp; replace s1 := rowK s1 hp; replace r2 := rowK r2 hp; replace s2 := rowK s2 hp; replace r3 := rowK r3 hp; replace s3 := rowK s3 hp; replace r4 := rowK r4 hp; replace s4 := rowK s4 hp; have zp10 : w9.heap.size ≤ p10.heap.size := (by rw [hp]; exact leA); clear hp O; have O := O'; clear O'; (with_reducible refine (retF_to H3.out (impl_RatSub_v za da A4 D4 c4 e4 _ _ zs ds A2 D2 c2 e2 _ _ _ r4 s4 Na.out r2 s2 Ns.out)).mono ?_); rintro e w10 ⟨⟨A5, c5, D5, e5, rfl, r5, s5, ap5⟩, o10⟩; replace B_b1 := Bx.old B_b1 o10; replace B_b2 := Bx.old B_b2 o10; replace B_b3 := Bx.old B_b3 o10; replace r1 := Row.below r1 o10 (Nat.le_refl _); replace s1 := Row.below s1 o10 (Nat.le_refl _); replace r2 := Row.below r2 o10 (Nat.le_refl _); replace s2 := Row.below s2 o10 (Nat.le_refl _); replace r3 := Row.below r3 o10 (Nat.le_refl _); replace s3 := Row.below s3 o10 (Nat.le_refl _); replace r4 := Row.below r4 o10 (Nat.le_refl _); replace s4 := Row.below s4 o10 (Nat.le_refl _); replace O := Old.trans O o10; have zw10 := o10.size; replace r5 := Row.more (lo' := p10.heap.size) r5 leA; replace s5 := Row.more (lo' := p10.heap.size) s5 leA; have lim_r5 := Row.lim r5; have lim_s5 := Row.lim s5; clear ap5; obtain ⟨q_b1_0, q_b1_1, q_b1_2, f_b1_0, f_b1_1, f_b1_2, q_b1⟩ := B_b1.all3; obtain ⟨q_b2_0, q_b2_1, q_b2_2, f_b2_0, f_b2_1, f_b2_2, q_b2⟩ := B_b2.all3; obtain ⟨q_b3_0, q_b3_1, q_b3_2, f_b3_0, f_b3_1, f_b3_2, q_b3⟩ := B_b3.all3)
       | (go_at_call 12; refine callsNamed ?_; intro p11 hp; clear q_b1_0 q_b1_1 q_b1_2 f_b1_0 f_b1_1 f_b1_2 q_b1 q_b2_0 q_b2_1 q_b2_2 f_b2_0 f_b2_1 f_b2_2 q_b2 q_b3_0 q_b3_1 q_b3_2 f_b3_0 f_b3_1 f_b3_2 q_b3; have O' : Old w p11 := (by rw [hp]; exact Below.trans (b := w10) O oldB); replace B_b1 : Bx p11 (g_b1) #[.bool (sgnZ zr), .slice A1 (len (magZ zr)) c1, .slice D1 (len dr) e1] := (bxK B_b1 hp); replace B_b2 : Bx p11 (g_b2) #[.bool (sgnZ zs), .slice A2 (len (magZ zs)) c2, .slice D2 (len ds) e2] := (bxK B_b2 hp); replace B_b3 : Bx p11 (g_b3) #[.bool (sgnZ zr), .slice A3 (len (magZ zr)) c3, .slice D3 (len dr) e3] := (bxK B_b3 hp); replace r1 := rowK r1 hp; replace s1 := rowK s1 hp; replace r2 := rowK r2 hp; replace s2 := rowK s2 hp; replace r3 := rowK r3 hp; replace s3 := rowK s3 hp; replace r4 := rowK r4 hp; replace s4 := rowK s4 hp; replace r5 := rowK r5 hp; replace s5 := rowK s5 hp; have zp11 : w10.heap.size ≤ p11.heap.size := (by rw [hp]; exact leA); clear hp O; have O := O'; clear O'; (with_reducible refine (ratEq_v zr dr A5 D5 c5 e5 _ _ A1 D1 c1 e1 _ _ _ r5 s5 r1 s1 Nr.out).mono ?_); rintro e w11 ⟨rfl, o11⟩; replace B_b1 := Bx.old B_b1 o11; replace B_b2 := Bx.old B_b2 o11; replace B_b3 := Bx.old B_b3 o11; replace r1 := Row.below r1 o11 (Nat.le_refl _); replace s1 := Row.below s1 o11 (Nat.le_refl _); replace r2 := Row.below r2 o11 (Nat.le_refl _); replace s2 := Row.below s2 o11 (Nat.le_refl _); replace r3 := Row.below r3 o11 (Nat.le_refl _); replace s3 := Row.below s3 o11 (Nat.le_refl _); replace r4 := Row.below r4 o11 (Nat.le_refl _); replace s4 := Row.below s4 o11 (Nat.le_refl _); replace r5 := Row.below r5 o11 (Nat.le_refl _); replace s5 := Row.below s5 o11 (Nat.le_refl _); replace O := Old.trans O o11; have zw11 := o11.size; obtain ⟨q_b1_0, q_b1_1, q_b1_2, f_b1_0, f_b1_1, f_b1_2, q_b1⟩ := B_b1.all3; obtain ⟨q_b2_0, q_b2_1, q_b2_2, f_b2_0, f_b2_1, f_b2_2, q_b2⟩ := B_b2.all3; obtain ⟨q_b3_0, q_b3_1, q_b3_2, f_b3_0, f_b3_1, f_b3_2, q_b3⟩ := B_b3.all3)
       | (go_at_call 15; refine callsNamed ?_; intro p12 hp; clear q_b1_0 q_b1_1 q_b1_2 f_b1_0 f_b1_1 f_b1_2 q_b1 q_b2_0 q_b2_1 q_b2_2 f_b2_0 f_b2_1 f_b2_2 q_b2 q_b3_0 q_b3_1 q_b3_2 f_b3_0 f_b3_1 f_b3_2 q_b3; have O' : Old w p12 := (by rw [hp]; exact Below.trans (b := w11) O oldB); replace B_b1 : Bx p12 (g_b1) #[.bool (sgnZ zr), .slice A1 (len (magZ zr)) c1, .slice D1 (len dr) e1] := (bxK B_b1 hp); replace B_b2 : Bx p12 (g_b2) #[.bool (sgnZ zs), .slice A2 (len (magZ zs)) c2, .slice D2 (len ds) e2] := (bxK B_b2 hp); replace B_b3 : Bx p12 (g_b3) #[.bool (sgnZ zr), .slice A3 (len (magZ zr)) c3, .slice D3 (len dr) e3] := (bxK B_b3 hp); replace r1 := rowK r1 hp; replace s1 := rowK s1 hp; replace r2 := rowK r2 hp; replace s2 := rowK s2 hp; replace r3 := rowK r3 hp; replace s3 := rowK s3 hp; replace r4 := rowK r4 hp; replace s4 := rowK s4 hp; replace r5 := rowK r5 hp; replace s5 := rowK s5 hp; have zp12 : w11.heap.size ≤ p12.heap.size := (by rw [hp]; exact leA); clear hp O; have O := O'; clear O'; refine (plain_to (by rw [H4.out]) (impl_RatCmp_v zr dr A1 D1 c1 e1 _ _ zs ds A2 D2 c2 e2 _ _ _ r1 s1 Nr.out r2 s2 Ns.out)).mono ?_; rintro e w12 ⟨rfl, o12⟩; replace B_b1 := Bx.old B_b1 o12; replace B_b2 := Bx.old B_b2 o12; replace B_b3 := Bx.old B_b3 o12; replace r1 := Row.below r1 o12 (Nat.le_refl _); replace s1 := Row.below s1 o12 (Nat.le_refl _); replace r2 := Row.below r2 o12 (Nat.le_refl _); replace s2 := Row.below s2 o12 (Nat.le_refl _); replace r3 := Row.below r3 o12 (Nat.le_refl _); replace s3 := Row.below s3 o12 (Nat.le_refl _); replace r4 := Row.below r4 o12 (Nat.le_refl _); replace s4 := Row.below s4 o12 (Nat.le_refl _); replace r5 := Row.below r5 o12 (Nat.le_refl _); replace s5 := Row.below s5 o12 (Nat.le_refl _); replace O := Old.trans O o12; have zw12 := o12.size; obtain ⟨q_b1_0, q_b1_1, q_b1_2, f_b1_0, f_b1_1, f_b1_2, q_b1⟩ := B_b1.all3; obtain ⟨q_b2_0, q_b2_1, q_b2_2, f_b2_0, f_b2_1, f_b2_2, q_b2⟩ := B_b2.all3; obtain ⟨q_b3_0, q_b3_1, q_b3_2, f_b3_0, f_b3_1, f_b3_2, q_b3⟩ := B_b3.all3)
       | (go_at_call 13; refine callsNamed ?_; intro p13 hp; clear q_b1_0 q_b1_1 q_b1_2 f_b1_0 f_b1_1 f_b1_2 q_b1 q_b2_0 q_b2_1 q_b2_2 f_b2_0 f_b2_1 f_b2_2 q_b2 q_b3_0 q_b3_1 q_b3_2 f_b3_0 f_b3_1 f_b3_2 q_b3; have O' : Old w p13 := (by rw [hp]; exact Below.trans (b := w12) O oldB); replace B_b1 : Bx p13 (g_b1) #[.bool (sgnZ zr), .slice A1 (len (magZ zr)) c1, .slice D1 (len dr) e1] := (bxK B_b1 hp); replace B_b2 : Bx p13 (g_b2) #[.bool (sgnZ zs), .slice A2 (len (magZ zs)) c2, .slice D2 (len ds) e2] := (bxK B_b2 hp); replace B_b3 : Bx p13 (g_b3) #[.bool (sgnZ zr), .slice A3 (len (magZ zr)) c3, .slice D3 (len dr) e3] := (bxK B_b3 hp); replace r1 := rowK r1 hp; replace s1 := rowK s1 hp; replace r2 := rowK r2 hp; replace s2 := rowK s2 hp; replace r3 := rowK r3 hp; replace s3 := rowK s3 hp; replace r4 := rowK r4 hp; replace s4 := rowK s4 hp; replace r5 := rowK r5 hp; replace s5 := rowK s5 hp; have zp13 : w12.heap.size ≤ p13.heap.size := (by rw [hp]; exact leA); clear hp O; have O := O'; clear O'; (with_reducible refine (retF_to HVu.out (impl_RatSub_v zr dr A1 D1 c1 e1 _ _ zs ds A2 D2 c2 e2 _ _ _ r1 s1 Nr.out r2 s2 Ns.out)).mono ?_); rintro e w13 ⟨⟨A6, c6, D6, e6, rfl, r6, s6, ap6⟩, o13⟩; replace B_b1 := Bx.old B_b1 o13; replace B_b2 := Bx.old B_b2 o13; replace B_b3 := Bx.old B_b3 o13; replace r1 := Row.below r1 o13 (Nat.le_refl _); replace s1 := Row.below s1 o13 (Nat.le_refl _); replace r2 := Row.below r2 o13 (Nat.le_refl _); replace s2 := Row.below s2 o13 (Nat.le_refl _); replace r3 := Row.below r3 o13 (Nat.le_refl _); replace s3 := Row.below s3 o13 (Nat.le_refl _); replace r4 := Row.below r4 o13 (Nat.le_refl _); replace s4 := Row.below s4 o13 (Nat.le_refl _); replace r5 := Row.below r5 o13 (Nat.le_refl _); replace s5 := Row.below s5 o13 (Nat.le_refl _); replace O := Old.trans O o13; have zw13 := o13.size; replace r6 := Row.more (lo' := p13.heap.size) r6 leA; replace s6 := Row.more (lo' := p13.heap.size) s6 leA; have lim_r6 := Row.lim r6; have lim_s6 := Row.lim s6; clear ap6; obtain ⟨q_b1_0, q_b1_1, q_b1_2, f_b1_0, f_b1_1, f_b1_2, q_b1⟩ := B_b1.all3; obtain ⟨q_b2_0, q_b2_1, q_b2_2, f_b2_0, f_b2_1, f_b2_2, q_b2⟩ := B_b2.all3; obtain ⟨q_b3_0, q_b3_1, q_b3_2, f_b3_0, f_b3_1, f_b3_2, q_b3⟩ := B_b3.all3)
       | (go_at_call 16; refine callsNamed ?_; intro p14 hp; clear q_b1_0 q_b1_1 q_b1_2 f_b1_0 f_b1_1 f_b1_2 q_b1 q_b2_0 q_b2_1 q_b2_2 f_b2_0 f_b2_1 f_b2_2 q_b2 q_b3_0 q_b3_1 q_b3_2 f_b3_0 f_b3_1 f_b3_2 q_b3; have O' : Old w p14 := (by rw [hp]; exact Below.trans (b := w13) O oldB); replace B_b1 : Bx p14 (g_b1) #[.bool (sgnZ zr), .slice A1 (len (magZ zr)) c1, .slice D1 (len dr) e1] := (bxK B_b1 hp); replace B_b2 : Bx p14 (g_b2) #[.bool (sgnZ zs), .slice A2 (len (magZ zs)) c2, .slice D2 (len ds) e2] := (bxK B_b2 hp); replace B_b3 : Bx p14 (g_b3) #[.bool (sgnZ zr), .slice A3 (len (magZ zr)) c3, .slice D3 (len dr) e3] := (bxK B_b3 hp); replace r1 := rowK r1 hp; replace s1 := rowK s1 hp; replace r2 := rowK r2 hp; replace s2 := rowK s2 hp; replace r3 := rowK r3 hp; replace s3 := rowK s3 hp; replace r4 := rowK r4 hp; replace s4 := rowK s4 hp; replace r5 := rowK r5 hp; replace s5 := rowK s5 hp; replace r6 := rowK r6 hp; replace s6 := rowK s6 hp; have zp14 : w13.heap.size ≤ p14.heap.size := (by rw [hp]; exact leA); clear hp O; have O := O'; clear O'; (with_reducible refine (plain_to (by rw [HC.out]) (impl_RatSign_v zu du A6 D6 c6 e6 _ _ _ r6 s6 Nu.out)).mono ?_); rintro e w14 ⟨rfl, o14⟩; replace B_b1 := Bx.old B_b1 o14; replace B_b2 := Bx.old B_b2 o14; replace B_b3 := Bx.old B_b3 o14; replace r1 := Row.below r1 o14 (Nat.le_refl _); replace s1 := Row.below s1 o14 (Nat.le_refl _); replace r2 := Row.below r2 o14 (Nat.le_refl _); replace s2 := Row.below s2 o14 (Nat.le_refl _); replace r3 := Row.below r3 o14 (Nat.le_refl _); replace s3 := Row.below s3 o14 (Nat.le_refl _); replace r4 := Row.below r4 o14 (Nat.le_refl _); replace s4 := Row.below s4 o14 (Nat.le_refl _); replace r5 := Row.below r5 o14 (Nat.le_refl _); replace s5 := Row.below s5 o14 (Nat.le_refl _); replace r6 := Row.below r6 o14 (Nat.le_refl _); replace s6 := Row.below s6 o14 (Nat.le_refl _); replace O := Old.trans O o14; have zw14 := o14.size; obtain ⟨q_b1_0, q_b1_1, q_b1_2, f_b1_0, f_b1_1, f_b1_2, q_b1⟩ := B_b1.all3; obtain ⟨q_b2_0, q_b2_1, q_b2_2, f_b2_0, f_b2_1, f_b2_2, q_b2⟩ := B_b2.all3; obtain ⟨q_b3_0, q_b3_1, q_b3_2, f_b3_0, f_b3_1, f_b3_2, q_b3⟩ := B_b3.all3)
       | (go_at_call 17; refine callsNamed ?_; intro p15 hp; clear q_b1_0 q_b1_1 q_b1_2 f_b1_0 f_b1_1 f_b1_2 q_b1 q_b2_0 q_b2_1 q_b2_2 f_b2_0 f_b2_1 f_b2_2 q_b2 q_b3_0 q_b3_1 q_b3_2 f_b3_0 f_b3_1 f_b3_2 q_b3; have O' : Old w p15 := (by rw [hp]; exact Below.trans (b := w14) O oldB); replace B_b1 : Bx p15 (g_b1) #[.bool (sgnZ zr), .slice A1 (len (magZ zr)) c1, .slice D1 (len dr) e1] := (bxK B_b1 hp); replace B_b2 : Bx p15 (g_b2) #[.bool (sgnZ zs), .slice A2 (len (magZ zs)) c2, .slice D2 (len ds) e2] := (bxK B_b2 hp); replace B_b3 : Bx p15 (g_b3) #[.bool (sgnZ zr), .slice A3 (len (magZ zr)) c3, .slice D3 (len dr) e3] := (bxK B_b3 hp); replace r1 := rowK r1 hp; replace s1 := rowK s1 hp; replace r2 := rowK r2 hp; replace s2 := rowK s2 hp; replace r3 := rowK r3 hp; replace s3 := rowK s3 hp; replace r4 := rowK r4 hp; replace s4 := rowK s4 hp; replace r5 := rowK r5 hp; replace s5 := rowK s5 hp; replace r6 := rowK r6 hp; replace s6 := rowK s6 hp; have zp15 : w14.heap.size ≤ p15.heap.size := (by rw [hp]; exact leA); clear hp O; have O := O'; clear O'; refine (retF_to HVm.out (impl_RatMin_v zr dr A1 D1 c1 e1 _ _ zs ds A2 D2 c2 e2 _ _ _ r1 s1 Nr.out r2 s2 Ns.out)).mono ?_; rintro e w15 ⟨⟨A7, c7, D7, e7, rfl, r7, s7, ap7⟩, o15⟩; replace B_b1 := Bx.old B_b1 o15; replace B_b2 := Bx.old B_b2 o15; replace B_b3 := Bx.old B_b3 o15; replace r1 := Row.below r1 o15 (Nat.le_refl _); replace s1 := Row.below s1 o15 (Nat.le_refl _); replace r2 := Row.below r2 o15 (Nat.le_refl _); replace s2 := Row.below s2 o15 (Nat.le_refl _); replace r3 := Row.below r3 o15 (Nat.le_refl _); replace s3 := Row.below s3 o15 (Nat.le_refl _); replace r4 := Row.below r4 o15 (Nat.le_refl _); replace s4 := Row.below s4 o15 (Nat.le_refl _); replace r5 := Row.below r5 o15 (Nat.le_refl _); replace s5 := Row.below s5 o15 (Nat.le_refl _); replace r6 := Row.below r6 o15 (Nat.le_refl _); replace s6 := Row.below s6 o15 (Nat.le_refl _); replace O := Old.trans O o15; have zw15 := o15.size; replace r7 := Row.more (lo' := p15.heap.size) r7 leA; replace s7 := Row.more (lo' := p15.heap.size) s7 leA; have lim_r7 := Row.lim r7; have lim_s7 := Row.lim s7; clear ap7; obtain ⟨q_b1_0, q_b1_1, q_b1_2, f_b1_0, f_b1_1, f_b1_2, q_b1⟩ := B_b1.all3; obtain ⟨q_b2_0, q_b2_1, q_b2_2, f_b2_0, f_b2_1, f_b2_2, q_b2⟩ := B_b2.all3; obtain ⟨q_b3_0, q_b3_1, q_b3_2, f_b3_0, f_b3_1, f_b3_2, q_b3⟩ := B_b3.all3)
       | (go_at_call 18; refine callsNamed ?_; intro p16 hp; clear q_b1_0 q_b1_1 q_b1_2 f_b1_0 f_b1_1 f_b1_2 q_b1 q_b2_0 q_b2_1 q_b2_2 f_b2_0 f_b2_1 f_b2_2 q_b2 q_b3_0 q_b3_1 q_b3_2 f_b3_0 f_b3_1 f_b3_2 q_b3; have O' : Old w p16 := (by rw [hp]; exact Below.trans (b := w15) O oldB); replace B_b1 : Bx p16 (g_b1) #[.bool (sgnZ zr), .slice A1 (len (magZ zr)) c1, .slice D1 (len dr) e1] := (bxK B_b1 hp); replace B_b2 : Bx p16 (g_b2) #[.bool (sgnZ zs), .slice A2 (len (magZ zs)) c2, .slice D2 (len ds) e2] := (bxK B_b2 hp); replace B_b3 : Bx p16 (g_b3) #[.bool (sgnZ zr), .slice A3 (len (magZ zr)) c3, .slice D3 (len dr) e3] := (bxK B_b3 hp); replace r1 := rowK r1 hp; replace s1 := rowK s1 hp; replace r2 := rowK r2 hp; replace s2 := rowK s2 hp; replace r3 := rowK r3 hp; replace s3 := rowK s3 hp; replace r4 := rowK r4 hp; replace s4 := rowK s4 hp; replace r5 := rowK r5 hp; replace s5 := rowK s5 hp; replace r6 := rowK r6 hp; replace s6 := rowK s6 hp; replace r7 := rowK r7 hp; replace s7 := rowK s7 hp; have zp16 : w15.heap.size ≤ p16.heap.size := (by rw [hp]; exact leA); clear hp O; have O := O'; clear O'; refine (retF_to HVk.out (impl_RatMax_v zr dr A1 D1 c1 e1 _ _ zs ds A2 D2 c2 e2 _ _ _ r1 s1 Nr.out r2 s2 Ns.out)).mono ?_; rintro e w16 ⟨⟨A8, c8, D8, e8, rfl, r8, s8, ap8⟩, o16⟩; replace B_b1 := Bx.old B_b1 o16; replace B_b2 := Bx.old B_b2 o16; replace B_b3 := Bx.old B_b3 o16; replace r1 := Row.below r1 o16 (Nat.le_refl _); replace s1 := Row.below s1 o16 (Nat.le_refl _); replace r2 := Row.below r2 o16 (Nat.le_refl _); replace s2 := Row.below s2 o16 (Nat.le_refl _); replace r3 := Row.below r3 o16 (Nat.le_refl _); replace s3 := Row.below s3 o16 (Nat.le_refl _); replace r4 := Row.below r4 o16 (Nat.le_refl _); replace s4 := Row.below s4 o16 (Nat.le_refl _); replace r5 := Row.below r5 o16 (Nat.le_refl _); replace s5 := Row.below s5 o16 (Nat.le_refl _); replace r6 := Row.below r6 o16 (Nat.le_refl _); replace s6 := Row.below s6 o16 (Nat.le_refl _); replace r7 := Row.below r7 o16 (Nat.le_refl _); replace s7 := Row.below s7 o16 (Nat.le_refl _); replace O := Old.trans O o16; have zw16 := o16.size; replace r8 := Row.more (lo' := p16.heap.size) r8 leA; replace s8 := Row.more (lo' := p16.heap.size) s8 leA; have lim_r8 := Row.lim r8; have lim_s8 := Row.lim s8; clear ap8; obtain ⟨q_b1_0, q_b1_1, q_b1_2, f_b1_0, f_b1_1, f_b1_2, q_b1⟩ := B_b1.all3; obtain ⟨q_b2_0, q_b2_1, q_b2_2, f_b2_0, f_b2_1, f_b2_2, q_b2⟩ := B_b2.all3; obtain ⟨q_b3_0, q_b3_1, q_b3_2, f_b3_0, f_b3_1, f_b3_2, q_b3⟩ := B_b3.all3)
       | (go_at_call 14; refine callsNamed ?_; intro p17 hp; clear q_b1_0 q_b1_1 q_b1_2 f_b1_0 f_b1_1 f_b1_2 q_b1 q_b2_0 q_b2_1 q_b2_2 f_b2_0 f_b2_1 f_b2_2 q_b2 q_b3_0 q_b3_1 q_b3_2 f_b3_0 f_b3_1 f_b3_2 q_b3; have O' : Old w p17 := (by rw [hp]; exact Below.trans (b := w16) O oldB); replace B_b1 : Bx p17 (g_b1) #[.bool (sgnZ zr), .slice A1 (len (magZ zr)) c1, .slice D1 (len dr) e1] := (bxK B_b1 hp); replace B_b2 : Bx p17 (g_b2) #[.bool (sgnZ zs), .slice A2 (len (magZ zs)) c2, .slice D2 (len ds) e2] := (bxK B_b2 hp); replace B_b3 : Bx p17 (g_b3) #[.bool (sgnZ zr), .slice A3 (len (magZ zr)) c3, .slice D3 (len dr) e3] := (bxK B_b3 hp); replace r1 := rowK r1 hp; replace s1 := rowK s1 hp; replace r2 := rowK r2 hp; replace s2 := rowK s2 hp; replace r3 := rowK r3 hp; replace s3 := rowK s3 hp; replace r4 := rowK r4 hp; replace s4 := rowK s4 hp; replace r5 := rowK r5 hp; replace s5 := rowK s5 hp; replace r6 := rowK r6 hp; replace s6 := rowK s6 hp; replace r7 := rowK r7 hp; replace s7 := rowK s7 hp; replace r8 := rowK r8 hp; replace s8 := rowK s8 hp; have zp17 : w16.heap.size ≤ p17.heap.size := (by rw [hp]; exact leA); clear hp O; have O := O'; clear O'; (with_reducible refine (retF_to H5.out (impl_RatAdd_v zm dm A7 D7 c7 e7 _ _ zk dk A8 D8 c8 e8 _ _ _ r7 s7 Nm.out r8 s8 Nk.out)).mono ?_); rintro e w17 ⟨⟨A9, c9, D9, e9, rfl, r9, s9, ap9⟩, o17⟩; replace B_b1 := Bx.old B_b1 o17; replace B_b2 := Bx.old B_b2 o17; replace B_b3 := Bx.old B_b3 o17; replace r1 := Row.below r1 o17 (Nat.le_refl _); replace s1 := Row.below s1 o17 (Nat.le_refl _); replace r2 := Row.below r2 o17 (Nat.le_refl _); replace s2 := Row.below s2 o17 (Nat.le_refl _); replace r3 := Row.below r3 o17 (Nat.le_refl _); replace s3 := Row.below s3 o17 (Nat.le_refl _); replace r4 := Row.below r4 o17 (Nat.le_refl _); replace s4 := Row.below s4 o17 (Nat.le_refl _); replace r5 := Row.below r5 o17 (Nat.le_refl _); replace s5 := Row.below s5 o17 (Nat.le_refl _); replace r6 := Row.below r6 o17 (Nat.le_refl _); replace s6 := Row.below s6 o17 (Nat.le_refl _); replace r7 := Row.below r7 o17 (Nat.le_refl _); replace s7 := Row.below s7 o17 (Nat.le_refl _); replace r8 := Row.below r8 o17 (Nat.le_refl _); replace s8 := Row.below s8 o17 (Nat.le_refl _); replace O := Old.trans O o17; have zw17 := o17.size; replace r9 := Row.more (lo' := p17.heap.size) r9 leA; replace s9 := Row.more (lo' := p17.heap.size) s9 leA; have lim_r9 := Row.lim r9; have lim_s9 := Row.lim s9; clear ap9; obtain ⟨q_b1_0, q_b1_1, q_b1_2, f_b1_0, f_b1_1, f_b1_2, q_b1⟩ := B_b1.all3; obtain ⟨q_b2_0, q_b2_1, q_b2_2, f_b2_0, f_b2_1, f_b2_2, q_b2⟩ := B_b2.all3; obtain ⟨q_b3_0, q_b3_1, q_b3_2, f_b3_0, f_b3_1, f_b3_2, q_b3⟩ := B_b3.all3)
       | (go_at_call 14; refine callsNamed ?_; intro p18 hp; clear q_b1_0 q_b1_1 q_b1_2 f_b1_0 f_b1_1 f_b1_2 q_b1 q_b2_0 q_b2_1 q_b2_2 f_b2_0 f_b2_1 f_b2_2 q_b2 q_b3_0 q_b3_1 q_b3_2 f_b3_0 f_b3_1 f_b3_2 q_b3; have O' : Old w p18 := (by rw [hp]; exact Below.trans (b := w17) O oldB); replace B_b1 : Bx p18 (g_b1) #[.bool (sgnZ zr), .slice A1 (len (magZ zr)) c1, .slice D1 (len dr) e1] := (bxK B_b1 hp); replace B_b2 : Bx p18 (g_b2) #[.bool (sgnZ zs), .slice A2 (len (magZ zs)) c2, .slice D2 (len ds) e2] := (bxK B_b2 hp); replace B_b3 : Bx p18 (g_b3) #[.bool (sgnZ zr), .slice A3 (len (magZ zr)) c3, .slice D3 (len dr) e3] := (bxK B_b3 hp); replace r1 := rowK r1 hp; replace s1 := rowK s1 hp; replace r2 := rowK r2 hp; replace s2 := rowK s2 hp; replace r3 := rowK r3 hp; replace s3 := rowK s3 hp; replace r4 := rowK r4 hp; replace s4 := rowK s4 hp; replace r5 := rowK r5 hp; replace s5 := rowK s5 hp; replace r6 := rowK r6 hp; replace s6 := rowK s6 hp; replace r7 := rowK r7 hp; replace s7 := rowK s7 hp; replace r8 := rowK r8 hp; replace s8 := rowK s8 hp; replace r9 := rowK r9 hp; replace s9 := rowK s9 hp; have zp18 : w17.heap.size ≤ p18.heap.size := (by rw [hp]; exact leA); clear hp O; have O := O'; clear O'; (with_reducible refine (retF_to HVa.out (impl_RatAdd_v zr dr A1 D1 c1 e1 _ _ zs ds A2 D2 c2 e2 _ _ _ r1 s1 Nr.out r2 s2 Ns.out)).mono ?_); rintro e w18 ⟨⟨A10, c10, D10, e10, rfl, r10, s10, ap10⟩, o18⟩; replace B_b1 := Bx.old B_b1 o18; replace B_b2 := Bx.old B_b2 o18; replace B_b3 := Bx.old B_b3 o18; replace r1 := Row.below r1 o18 (Nat.le_refl _); replace s1 := Row.below s1 o18 (Nat.le_refl _); replace r2 := Row.below r2 o18 (Nat.le_refl _); replace s2 := Row.below s2 o18 (Nat.le_refl _); replace r3 := Row.below r3 o18 (Nat.le_refl _); replace s3 := Row.below s3 o18 (Nat.le_refl _); replace r4 := Row.below r4 o18 (Nat.le_refl _); replace s4 := Row.below s4 o18 (Nat.le_refl _); replace r5 := Row.below r5 o18 (Nat.le_refl _); replace s5 := Row.below s5 o18 (Nat.le_refl _); replace r6 := Row.below r6 o18 (Nat.le_refl _); replace s6 := Row.below s6 o18 (Nat.le_refl _); replace r7 := Row.below r7 o18 (Nat.le_refl _); replace s7 := Row.below s7 o18 (Nat.le_refl _); replace r8 := Row.below r8 o18 (Nat.le_refl _); replace s8 := Row.below s8 o18 (Nat.le_refl _); replace r9 := Row.below r9 o18 (Nat.le_refl _); replace s9 := Row.below s9 o18 (Nat.le_refl _); replace O := Old.trans O o18; have zw18 := o18.size; replace r10 := Row.more (lo' := p18.heap.size) r10 leA; replace s10 := Row.more (lo' := p18.heap.size) s10 leA; have lim_r10 := Row.lim r10; have lim_s10 := Row.lim s10; clear ap10; obtain ⟨q_b1_0, q_b1_1, q_b1_2, f_b1_0, f_b1_1, f_b1_2, q_b1⟩ := B_b1.all3; obtain ⟨q_b2_0, q_b2_1, q_b2_2, f_b2_0, f_b2_1, f_b2_2, q_b2⟩ := B_b2.all3; obtain ⟨q_b3_0, q_b3_1, q_b3_2, f_b3_0, f_b3_1, f_b3_2, q_b3⟩ := B_b3.all3)
       | (go_at_call 12; refine callsNamed ?_; intro p19 hp; clear q_b1_0 q_b1_1 q_b1_2 f_b1_0 f_b1_1 f_b1_2 q_b1 q_b2_0 q_b2_1 q_b2_2 f_b2_0 f_b2_1 f_b2_2 q_b2 q_b3_0 q_b3_1 q_b3_2 f_b3_0 f_b3_1 f_b3_2 q_b3; have O' : Old w p19 := (by rw [hp]; exact Below.trans (b := w18) O oldB); replace B_b1 : Bx p19 (g_b1) #[.bool (sgnZ zr), .slice A1 (len (magZ zr)) c1, .slice D1 (len dr) e1] := (bxK B_b1 hp); replace B_b2 : Bx p19 (g_b2) #[.bool (sgnZ zs), .slice A2 (len (magZ zs)) c2, .slice D2 (len ds) e2] := (bxK B_b2 hp); replace B_b3 : Bx p19 (g_b3) #[.bool (sgnZ zr), .slice A3 (len (magZ zr)) c3, .slice D3 (len dr) e3] := (bxK B_b3 hp); replace r1 := rowK r1 hp; replace s1 := rowK s1 hp; replace r2 := rowK r2 hp; replace s2 := rowK s2 hp; replace r3 := rowK r3 hp; replace s3 := rowK s3 hp; replace r4 := rowK r4 hp; replace s4 := rowK s4 hp; replace r5 := rowK r5 hp; replace s5 := rowK s5 hp; replace r6 := rowK r6 hp; replace s6 := rowK s6 hp; replace r7 := rowK r7 hp; replace s7 := rowK s7 hp; replace r8 := rowK r8 hp; replace s8 := rowK s8 hp; replace r9 := rowK r9 hp; replace s9 := rowK s9 hp; replace r10 := rowK r10 hp; replace s10 := rowK s10 hp; have zp19 : w18.heap.size ≤ p19.heap.size := (by rw [hp]; exact leA); clear hp O; have O := O'; clear O'; (with_reducible refine (ratEq_v za da A9 D9 c9 e9 _ _ A10 D10 c10 e10 _ _ _ r9 s9 r10 s10 Na.out).mono ?_); rintro e w19 ⟨rfl, o19⟩; replace B_b1 := Bx.old B_b1 o19; replace B_b2 := Bx.old B_b2 o19; replace B_b3 := Bx.old B_b3 o19; replace r1 := Row.below r1 o19 (Nat.le_refl _); replace s1 := Row.below s1 o19 (Nat.le_refl _); replace r2 := Row.below r2 o19 (Nat.le_refl _); replace s2 := Row.below s2 o19 (Nat.le_refl _); replace r3 := Row.below r3 o19 (Nat.le_refl _); replace s3 := Row.below s3 o19 (Nat.le_refl _); replace r4 := Row.below r4 o19 (Nat.le_refl _); replace s4 := Row.below s4 o19 (Nat.le_refl _); replace r5 := Row.below r5 o19 (Nat.le_refl _); replace s5 := Row.below s5 o19 (Nat.le_refl _); replace r6 := Row.below r6 o19 (Nat.le_refl _); replace s6 := Row.below s6 o19 (Nat.le_refl _); replace r7 := Row.below r7 o19 (Nat.le_refl _); replace s7 := Row.below s7 o19 (Nat.le_refl _); replace r8 := Row.below r8 o19 (Nat.le_refl _); replace s8 := Row.below s8 o19 (Nat.le_refl _); replace r9 := Row.below r9 o19 (Nat.le_refl _); replace s9 := Row.below s9 o19 (Nat.le_refl _); replace r10 := Row.below r10 o19 (Nat.le_refl _); replace s10 := Row.below s10 o19 (Nat.le_refl _); replace O := Old.trans O o19; have zw19 := o19.size; obtain ⟨q_b1_0, q_b1_1, q_b1_2, f_b1_0, f_b1_1, f_b1_2, q_b1⟩ := B_b1.all3; obtain ⟨q_b2_0, q_b2_1, q_b2_2, f_b2_0, f_b2_1, f_b2_2, q_b2⟩ := B_b2.all3; obtain ⟨q_b3_0, q_b3_1, q_b3_2, f_b3_0, f_b3_1, f_b3_2, q_b3⟩ := B_b3.all3)
       | (go_at_call 16; refine callsNamed ?_; intro p20 hp; clear q_b1_0 q_b1_1 q_b1_2 f_b1_0 f_b1_1 f_b1_2 q_b1 q_b2_0 q_b2_1 q_b2_2 f_b2_0 f_b2_1 f_b2_2 q_b2 q_b3_0 q_b3_1 q_b3_2 f_b3_0 f_b3_1 f_b3_2 q_b3; have O' : Old w p20 := (by rw [hp]; exact Below.trans (b := w19) O oldB); replace B_b1 : Bx p20 (g_b1) #[.bool (sgnZ zr), .slice A1 (len (magZ zr)) c1, .slice D1 (len dr) e1] := (bxK B_b1 hp); replace B_b2 : Bx p20 (g_b2) #[.bool (sgnZ zs), .slice A2 (len (magZ zs)) c2, .slice D2 (len ds) e2] := (bxK B_b2 hp); replace B_b3 : Bx p20 (g_b3) #[.bool (sgnZ zr), .slice A3 (len (magZ zr)) c3, .slice D3 (len dr) e3] := (bxK B_b3 hp); replace r1 := rowK r1 hp; replace s1 := rowK s1 hp; replace r2 := rowK r2 hp; replace s2 := rowK s2 hp; replace r3 := rowK r3 hp; replace s3 := rowK s3 hp; replace r4 := rowK r4 hp; replace s4 := rowK s4 hp; replace r5 := rowK r5 hp; replace s5 := rowK s5 hp; replace r6 := rowK r6 hp; replace s6 := rowK s6 hp; replace r7 := rowK r7 hp; replace s7 := rowK s7 hp; replace r8 := rowK r8 hp; replace s8 := rowK s8 hp; replace r9 := rowK r9 hp; replace s9 := rowK s9 hp; replace r10 := rowK r10 hp; replace s10 := rowK s10 hp; have zp20 : w19.heap.size ≤ p20.heap.size := (by rw [hp]; exact leA); clear hp O; have O := O'; clear O'; (with_reducible refine (plain_to (by rw [HS.out]) (impl_RatSign_v zs ds A2 D2 c2 e2 _ _ _ r2 s2 Ns.out)).mono ?_); rintro e w20 ⟨rfl, o20⟩; replace B_b1 := Bx.old B_b1 o20; replace B_b2 := Bx.old B_b2 o20; replace B_b3 := Bx.old B_b3 o20; replace r1 := Row.below r1 o20 (Nat.le_refl _); replace s1 := Row.below s1 o20 (Nat.le_refl _); replace r2 := Row.below r2 o20 (Nat.le_refl _); replace s2 := Row.below s2 o20 (Nat.le_refl _); replace r3 := Row.below r3 o20 (Nat.le_refl _); replace s3 := Row.below s3 o20 (Nat.le_refl _); replace r4 := Row.below r4 o20 (Nat.le_refl _); replace s4 := Row.below s4 o20 (Nat.le_refl _); replace r5 := Row.below r5 o20 (Nat.le_refl _); replace s5 := Row.below s5 o20 (Nat.le_refl _); replace r6 := Row.below r6 o20 (Nat.le_refl _); replace s6 := Row.below s6 o20 (Nat.le_refl _); replace r7 := Row.below r7 o20 (Nat.le_refl _); replace s7 := Row.below s7 o20 (Nat.le_refl _); replace r8 := Row.below r8 o20 (Nat.le_refl _); replace s8 := Row.below s8 o20 (Nat.le_refl _); replace r9 := Row.below r9 o20 (Nat.le_refl _); replace s9 := Row.below s9 o20 (Nat.le_refl _); replace r10 := Row.below r10 o20 (Nat.le_refl _); replace s10 := Row.below s10 o20 (Nat.le_refl _); replace O := Old.trans O o20; have zw20 := o20.size; obtain ⟨q_b1_0, q_b1_1, q_b1_2, f_b1_0, f_b1_1, f_b1_2, q_b1⟩ := B_b1.all3; obtain ⟨q_b2_0, q_b2_1, q_b2_2, f_b2_0, f_b2_1, f_b2_2, q_b2⟩ := B_b2.all3; obtain ⟨q_b3_0, q_b3_1, q_b3_2, f_b3_0, f_b3_1, f_b3_2, q_b3⟩ := B_b3.all3)
       | (go_at_call 20; refine callsNamed ?_; intro p21 hp; clear q_b1_0 q_b1_1 q_b1_2 f_b1_0 f_b1_1 f_b1_2 q_b1 q_b2_0 q_b2_1 q_b2_2 f_b2_0 f_b2_1 f_b2_2 q_b2 q_b3_0 q_b3_1 q_b3_2 f_b3_0 f_b3_1 f_b3_2 q_b3; have O' : Old w p21 := (by rw [hp]; exact Below.trans (b := w20) O oldB); replace B_b1 : Bx p21 (g_b1) #[.bool (sgnZ zr), .slice A1 (len (magZ zr)) c1, .slice D1 (len dr) e1] := (bxK B_b1 hp); replace B_b2 : Bx p21 (g_b2) #[.bool (sgnZ zs), .slice A2 (len (magZ zs)) c2, .slice D2 (len ds) e2] := (bxK B_b2 hp); replace B_b3 : Bx p21 (g_b3) #[.bool (sgnZ zr), .slice A3 (len (magZ zr)) c3, .slice D3 (len dr) e3] := (bxK B_b3 hp); replace r1 := rowK r1 hp; replace s1 := rowK s1 hp; replace r2 := rowK r2 hp; replace s2 := rowK s2 hp; replace r3 := rowK r3 hp; replace s3 := rowK s3 hp; replace r4 := rowK r4 hp; replace s4 := rowK s4 hp; replace r5 := rowK r5 hp; replace s5 := rowK s5 hp; replace r6 := rowK r6 hp; replace s6 := rowK s6 hp; replace r7 := rowK r7 hp; replace s7 := rowK s7 hp; replace r8 := rowK r8 hp; replace s8 := rowK s8 hp; replace r9 := rowK r9 hp; replace s9 := rowK s9 hp; replace r10 := rowK r10 hp; replace s10 := rowK s10 hp; have zp21 : w20.heap.size ≤ p21.heap.size := (by rw [hp]; exact leA); clear hp O; have O := O'; clear O'; refine (retF_to HVq.out (impl_RatDiv_v zr dr A1 D1 c1 e1 _ _ zs ds A2 D2 c2 e2 _ _ _ r1 s1 Nr.out r2 s2 Ns.out)).mono ?_; rintro e w21 ⟨⟨A11, c11, D11, e11, rfl, r11, s11, ap11⟩, o21⟩; replace B_b1 := Bx.old B_b1 o21; replace B_b2 := Bx.old B_b2 o21; replace B_b3 := Bx.old B_b3 o21; replace r1 := Row.below r1 o21 (Nat.le_refl _); replace s1 := Row.below s1 o21 (Nat.le_refl _); replace r2 := Row.below r2 o21 (Nat.le_refl _); replace s2 := Row.below s2 o21 (Nat.le_refl _); replace r3 := Row.below r3 o21 (Nat.le_refl _); replace s3 := Row.below s3 o21 (Nat.le_refl _); replace r4 := Row.below r4 o21 (Nat.le_refl _); replace s4 := Row.below s4 o21 (Nat.le_refl _); replace r5 := Row.below r5 o21 (Nat.le_refl _); replace s5 := Row.below s5 o21 (Nat.le_refl _); replace r6 := Row.below r6 o21 (Nat.le_refl _); replace s6 := Row.below s6 o21 (Nat.le_refl _); replace r7 := Row.below r7 o21 (Nat.le_refl _); replace s7 := Row.below s7 o21 (Nat.le_refl _); replace r8 := Row.below r8 o21 (Nat.le_refl _); replace s8 := Row.below s8 o21 (Nat.le_refl _); replace r9 := Row.below r9 o21 (Nat.le_refl _); replace s9 := Row.below s9 o21 (Nat.le_refl _); replace r10 := Row.below r10 o21 (Nat.le_refl _); replace s10 := Row.below s10 o21 (Nat.le_refl _); replace O := Old.trans O o21; have zw21 := o21.size; replace r11 := Row.more (lo' := p21.heap.size) r11 leA; replace s11 := Row.more (lo' := p21.heap.size) s11 leA; have lim_r11 := Row.lim r11; have lim_s11 := Row.lim s11; clear ap11; obtain ⟨q_b1_0, q_b1_1, q_b1_2, f_b1_0, f_b1_1, f_b1_2, q_b1⟩ := B_b1.all3; obtain ⟨q_b2_0, q_b2_1, q_b2_2, f_b2_0, f_b2_1, f_b2_2, q_b2⟩ := B_b2.all3; obtain ⟨q_b3_0, q_b3_1, q_b3_2, f_b3_0, f_b3_1, f_b3_2, q_b3⟩ := B_b3.all3)
       | (go_at_call 19; refine callsNamed ?_; intro p22 hp; clear q_b1_0 q_b1_1 q_b1_2 f_b1_0 f_b1_1 f_b1_2 q_b1 q_b2_0 q_b2_1 q_b2_2 f_b2_0 f_b2_1 f_b2_2 q_b2 q_b3_0 q_b3_1 q_b3_2 f_b3_0 f_b3_1 f_b3_2 q_b3; have O' : Old w p22 := (by rw [hp]; exact Below.trans (b := w21) O oldB); replace B_b1 : Bx p22 (g_b1) #[.bool (sgnZ zr), .slice A1 (len (magZ zr)) c1, .slice D1 (len dr) e1] := (bxK B_b1 hp); replace B_b2 : Bx p22 (g_b2) #[.bool (sgnZ zs), .slice A2 (len (magZ zs)) c2, .slice D2 (len ds) e2] := (bxK B_b2 hp); replace B_b3 : Bx p22 (g_b3) #[.bool (sgnZ zr), .slice A3 (len (magZ zr)) c3, .slice D3 (len dr) e3] := (bxK B_b3 hp); replace r1 := rowK r1 hp; replace s1 := rowK s1 hp; replace r2 := rowK r2 hp; replace s2 := rowK s2 hp; replace r3 := rowK r3 hp; replace s3 := rowK s3 hp; replace r4 := rowK r4 hp; replace s4 := rowK s4 hp; replace r5 := rowK r5 hp; replace s5 := rowK s5 hp; replace r6 := rowK r6 hp; replace s6 := rowK s6 hp; replace r7 := rowK r7 hp; replace s7 := rowK s7 hp; replace r8 := rowK r8 hp; replace s8 := rowK s8 hp; replace r9 := rowK r9 hp; replace s9 := rowK s9 hp; replace r10 := rowK r10 hp; replace s10 := rowK s10 hp; replace r11 := rowK r11 hp; replace s11 := rowK s11 hp; have zp22 : w21.heap.size ≤ p22.heap.size := (by rw [hp]; exact leA); clear hp O; have O := O'; clear O'; refine (retF_to H7.out (impl_RatMul_v zq dq A11 D11 c11 e11 _ _ zs ds A2 D2 c2 e2 _ _ _ r11 s11 Nq.out r2 s2 Ns.out)).mono ?_; rintro e w22 ⟨⟨A12, c12, D12, e12, rfl, r12, s12, ap12⟩, o22⟩; replace B_b1 := Bx.old B_b1 o22; replace B_b2 := Bx.old B_b2 o22; replace B_b3 := Bx.old B_b3 o22; replace r1 := Row.below r1 o22 (Nat.le_refl _); replace s1 := Row.below s1 o22 (Nat.le_refl _); replace r2 := Row.below r2 o22 (Nat.le_refl _); replace s2 := Row.below s2 o22 (Nat.le_refl _); replace r3 := Row.below r3 o22 (Nat.le_refl _); replace s3 := Row.below s3 o22 (Nat.le_refl _); replace r4 := Row.below r4 o22 (Nat.le_refl _); replace s4 := Row.below s4 o22 (Nat.le_refl _); replace r5 := Row.below r5 o22 (Nat.le_refl _); replace s5 := Row.below s5 o22 (Nat.le_refl _); replace r6 := Row.below r6 o22 (Nat.le_refl _); replace s6 := Row.below s6 o22 (Nat.le_refl _); replace r7 := Row.below r7 o22 (Nat.le_refl _); replace s7 := Row.below s7 o22 (Nat.le_refl _); replace r8 := Row.below r8 o22 (Nat.le_refl _); replace s8 := Row.below s8 o22 (Nat.le_refl _); replace r9 := Row.below r9 o22 (Nat.le_refl _); replace s9 := Row.below s9 o22 (Nat.le_refl _); replace r10 := Row.below r10 o22 (Nat.le_refl _); replace s10 := Row.below s10 o22 (Nat.le_refl _); replace r11 := Row.below r11 o22 (Nat.le_refl _); replace s11 := Row.below s11 o22 (Nat.le_refl _); replace O := Old.trans O o22; have zw22 := o22.size; replace r12 := Row.more (lo' := p22.heap.size) r12 leA; replace s12 := Row.more (lo' := p22.heap.size) s12 leA; have lim_r12 := Row.lim r12; have lim_s12 := Row.lim s12; clear ap12; obtain ⟨q_b1_0, q_b1_1, q_b1_2, f_b1_0, f_b1_1, f_b1_2, q_b1⟩ := B_b1.all3; obtain ⟨q_b2_0, q_b2_1, q_b2_2, f_b2_0, f_b2_1, f_b2_2, q_b2⟩ := B_b2.all3; obtain ⟨q_b3_0, q_b3_1, q_b3_2, f_b3_0, f_b3_1, f_b3_2, q_b3⟩ := B_b3.all3)
       | (go_at_call 12; refine callsNamed ?_; intro p23 hp; clear q_b1_0 q_b1_1 q_b1_2 f_b1_0 f_b1_1 f_b1_2 q_b1 q_b2_0 q_b2_1 q_b2_2 f_b2_0 f_b2_1 f_b2_2 q_b2 q_b3_0 q_b3_1 q_b3_2 f_b3_0 f_b3_1 f_b3_2 q_b3; have O' : Old w p23 := (by rw [hp]; exact Below.trans (b := w22) O oldB); replace B_b1 : Bx p23 (g_b1) #[.bool (sgnZ zr), .slice A1 (len (magZ zr)) c1, .slice D1 (len dr) e1] := (bxK B_b1 hp); replace B_b2 : Bx p23 (g_b2) #[.bool (sgnZ zs), .slice A2 (len (magZ zs)) c2, .slice D2 (len ds) e2] := (bxK B_b2 hp); replace B_b3 : Bx p23 (g_b3) #[.bool (sgnZ zr), .slice A3 (len (magZ zr)) c3, .slice D3 (len dr) e3] := (bxK B_b3 hp); replace r1 := rowK r1 hp; replace s1 := rowK s1 hp; replace r2 := rowK r2 hp; replace s2 := rowK s2 hp; replace r3 := rowK r3 hp; replace s3 := rowK s3 hp; replace r4 := rowK r4 hp; replace s4 := rowK s4 hp; replace r5 := rowK r5 hp; replace s5 := rowK s5 hp; replace r6 := rowK r6 hp; replace s6 := rowK s6 hp; replace r7 := rowK r7 hp; replace s7 := rowK s7 hp; replace r8 := rowK r8 hp; replace s8 := rowK s8 hp; replace r9 := rowK r9 hp; replace s9 := rowK s9 hp; replace r10 := rowK r10 hp; replace s10 := rowK s10 hp; replace r11 := rowK r11 hp; replace s11 := rowK s11 hp; replace r12 := rowK r12 hp; replace s12 := rowK s12 hp; have zp23 : w22.heap.size ≤ p23.heap.size := (by rw [hp]; exact leA); clear hp O; have O := O'; clear O'; (with_reducible refine (ratEq_v zr dr A12 D12 c12 e12 _ _ A1 D1 c1 e1 _ _ _ r12 s12 r1 s1 Nr.out).mono ?_); rintro e w23 ⟨rfl, o23⟩; replace B_b1 := Bx.old B_b1 o23; replace B_b2 := Bx.old B_b2 o23; replace B_b3 := Bx.old B_b3 o23; replace r1 := Row.below r1 o23 (Nat.le_refl _); replace s1 := Row.below s1 o23 (Nat.le_refl _); replace r2 := Row.below r2 o23 (Nat.le_refl _); replace s2 := Row.below s2 o23 (Nat.le_refl _); replace r3 := Row.below r3 o23 (Nat.le_refl _); replace s3 := Row.below s3 o23 (Nat.le_refl _); replace r4 := Row.below r4 o23 (Nat.le_refl _); replace s4 := Row.below s4 o23 (Nat.le_refl _); replace r5 := Row.below r5 o23 (Nat.le_refl _); replace s5 := Row.below s5 o23 (Nat.le_refl _); replace r6 := Row.below r6 o23 (Nat.le_refl _); replace s6 := Row.below s6 o23 (Nat.le_refl _); replace r7 := Row.below r7 o23 (Nat.le_refl _); replace s7 := Row.below s7 o23 (Nat.le_refl _); replace r8 := Row.below r8 o23 (Nat.le_refl _); replace s8 := Row.below s8 o23 (Nat.le_refl _); replace r9 := Row.below r9 o23 (Nat.le_refl _); replace s9 := Row.below s9 o23 (Nat.le_refl _); replace r10 := Row.below r10 o23 (Nat.le_refl _); replace s10 := Row.below s10 o23 (Nat.le_refl _); replace r11 := Row.below r11 o23 (Nat.le_refl _); replace s11 := Row.below s11 o23 (Nat.le_refl _); replace r12 := Row.below r12 o23 (Nat.le_refl _); replace s12 := Row.below s12 o23 (Nat.le_refl _); replace O := Old.trans O o23; have zw23 := o23.size; obtain ⟨q_b1_0, q_b1_1, q_b1_2, f_b1_0, f_b1_1, f_b1_2, q_b1⟩ := B_b1.all3; obtain ⟨q_b2_0, q_b2_1, q_b2_2, f_b2_0, f_b2_1, f_b2_2, q_b2⟩ := B_b2.all3; obtain ⟨q_b3_0, q_b3_1, q_b3_2, f_b3_0, f_b3_1, f_b3_2, q_b3⟩ := B_b3.all3))
    go_wp2
    go_ret
    exact ⟨rfl, Below.trans (b := w23) O oldB⟩
end Go.Proofs.YtgchbbjhdeobpaaGreatDoor
