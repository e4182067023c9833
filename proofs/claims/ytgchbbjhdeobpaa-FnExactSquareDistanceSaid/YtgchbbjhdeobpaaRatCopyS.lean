import Derived.Test.YtgchbbjhdeobpaaRatMake
import Derived.Test.YtgchbbjhdeobpaaStep
/-
  Copies and negatives of the reference's fractions: l04Copy, l04Neg.
-/
namespace Go.Proofs.Ytgchbbjhdeobpaa
set_option linter.unusedVariables false
open Go.RowKit Num
attribute [local go_sem ↓] Go.wp_at_zero Go.wp_at_succ
theorem signed_neg (z : Int) : signed (!sgnZ z) (magZ z) = -z := by
  unfold signed sgnZ magZ
  by_cases h : z < 0 <;> simp [h] <;> omega
set_option maxRecDepth 100000 in
set_option maxHeartbeats 1000000 in
theorem l04Neg_any (z1 : Int) (d1 : Nat) (A1 D1 : Option Addr) (c1 e1 l1 m1 : Nat) (w : World) (h1 : NatS w l1 A1 c1 (magZ z1)) (k1 : NatS w m1 D1 e1 d1) (n1 : normF (z1, d1)) :
    Calls Try.prog 30 #[.agg #[.bool (sgnZ z1), .slice A1 (len (magZ z1)) c1, .slice D1 (len d1) e1]] w fun e w' => RetR e w' w.heap.size (negF (z1, d1)) ∧ Old w w' := by
  have N1 := Lib.hid n1
  have LN1 := norm_len n1
  have La1 : len (magZ z1) ≤ 24 := LN1.1
  have Lb1 : len d1 ≤ 24 := LN1.2
  clear n1 LN1
  have HNZ : Hid (signed (!sgnZ z1) (magZ z1) = -z1) := Lib.hid (signed_neg z1)
  have O : Old w ((w.alloc (.cells #[.bool (sgnZ z1), .slice A1 (len (magZ z1)) c1, .slice D1 (len d1) e1] 32)).alloc (.cells #[.bool false, .slice none 0 0, .slice none 0 0] 32)) := oldA
  have B_x : Bx ((w.alloc (.cells #[.bool (sgnZ z1), .slice A1 (len (magZ z1)) c1, .slice D1 (len d1) e1] 32)).alloc (.cells #[.bool false, .slice none 0 0, .slice none 0 0] 32)) (w.heap.size) #[.bool (sgnZ z1), .slice A1 (len (magZ z1)) c1, .slice D1 (len d1) e1] := by have h := (Bx.alloc (Bx.new w #[.bool (sgnZ z1), .slice A1 (len (magZ z1)) c1, .slice D1 (len d1) e1] 32) (.cells #[.bool false, .slice none 0 0, .slice none 0 0] 32)); simpa using h
  have B_r : Bx ((w.alloc (.cells #[.bool (sgnZ z1), .slice A1 (len (magZ z1)) c1, .slice D1 (len d1) e1] 32)).alloc (.cells #[.bool false, .slice none 0 0, .slice none 0 0] 32)) (w.heap.size + 1) #[.bool false, .slice none 0 0, .slice none 0 0] := by have h := (Bx.new (w.alloc (.cells #[.bool (sgnZ z1), .slice A1 (len (magZ z1)) c1, .slice D1 (len d1) e1] 32)) #[.bool false, .slice none 0 0, .slice none 0 0] 32); simpa using h
  have ne_0_1 : ¬ (w.heap.size = w.heap.size + 1) := by omega
  have ne_1_0 : ¬ (w.heap.size + 1 = w.heap.size) := by omega
  have ze : w.heap.size + 2 ≤ ((w.alloc (.cells #[.bool (sgnZ z1), .slice A1 (len (magZ z1)) c1, .slice D1 (len d1) e1] 32)).alloc (.cells #[.bool false, .slice none 0 0, .slice none 0 0] 32)).heap.size := (by simp)
  go_enter Try.func30, Try.ntmps30
  go_upto_region 1 with fail
  obtain ⟨cur, hcur⟩ : ∃ x, x = ((w.alloc (.cells #[.bool (sgnZ z1), .slice A1 (len (magZ z1)) c1, .slice D1 (len d1) e1] 32)).alloc (.cells #[.bool false, .slice none 0 0, .slice none 0 0] 32)) := ⟨_, rfl⟩
  rw [← hcur] at O B_x B_r ze ⊢
  clear hcur
  have q_x_0 := B_x.cell 0 rfl
  have q_x_1 := B_x.cell 1 rfl
  have q_x_2 := B_x.cell 2 rfl
  have f_x_0 := B_x.frozen 0
  have f_x_1 := B_x.frozen 1
  have f_x_2 := B_x.frozen 2
  have q_r_0 := B_r.cell 0 rfl
  have q_r_1 := B_r.cell 1 rfl
  have q_r_2 := B_r.cell 2 rfl
  have f_r_0 := B_r.frozen 0
  have f_r_1 := B_r.frozen 1
  have f_r_2 := B_r.frozen 2
  have q_x := B_x.lt
  have q_r := B_r.lt
  go_region_held3 (fun w' => w'.cell? ⟨w.heap.size, 0, none⟩ = some (.bool (sgnZ z1)) ∧ w'.cell? ⟨w.heap.size, 1, none⟩ = some (.slice A1 (len (magZ z1)) c1) ∧ w'.cell? ⟨w.heap.size, 2, none⟩ = some (.slice D1 (len d1) e1)) (go_keep)
    (first
     | (go_at_call 46; refine callsNamed ?_; intro p7 hp7; clear q_x_0 q_x_1 q_x_2 f_x_0 f_x_1 f_x_2 q_r_0 q_r_1 q_r_2 f_r_0 f_r_1 f_r_2 q_x q_r; have O7 : Old w p7 := (by rw [hp7]; exact Below.trans (b := cur) O oldA); replace B_x := (show Bx p7 (w.heap.size) #[.bool (sgnZ z1), .slice A1 (len (magZ z1)) c1, .slice D1 (len d1) e1] by rw [hp7]; repeat' (first | (with_reducible exact B_x) | (with_reducible refine Bx.alloc ?_ _) | (with_reducible refine Bx.drewN ?_ _) | (with_reducible refine Bx.drew ?_))); replace B_r := (show Bx p7 (w.heap.size + 1) #[.bool false, .slice none 0 0, .slice none 0 0] by rw [hp7]; repeat' (first | (with_reducible exact B_r) | (with_reducible refine Bx.alloc ?_ _) | (with_reducible refine Bx.drewN ?_ _) | (with_reducible refine Bx.drew ?_))); have zc7 : cur.heap.size ≤ p7.heap.size := (by rw [hp7]; exact leA); have zs7 := congrArg (fun x => x.heap.size) hp7; (try simp at zs7); (first | (replace r5 := Row.at r5 p7 (by rw [hp7]; repeat' (first | (with_reducible exact r5) | (with_reducible refine Row.alloc' ?_ _) | (with_reducible refine Row.drewN ?_ _) | (with_reducible refine Row.drew' ?_)))) | skip); refine (l03Make_fit (!sgnZ z1) A1 c1 (magZ z1) l1 p7 (Row.below (B := w.heap.size) h1 O7 (Nat.le_refl _)) (by omega)).mono ?_; rw [HNZ.out]; rintro e cur ⟨⟨A7, c7, rfl, r7⟩, o7⟩; have zg7 := o7.size; have O := Old.trans O7 o7; replace B_x := Bx.old B_x o7; replace B_r := Bx.old B_r o7; have low_7 := Row.low r7; replace r7 := Row.more (lo' := w.heap.size + 2) r7 (by omega); have lim_7 := Row.lim r7; (first | (replace r5 := Row.below r5 o7 (Nat.le_refl _)) | skip); have q_x_0 := B_x.cell 0 rfl; have q_x_1 := B_x.cell 1 rfl; have q_x_2 := B_x.cell 2 rfl; have f_x_0 := B_x.frozen 0; have f_x_1 := B_x.frozen 1; have f_x_2 := B_x.frozen 2; have q_r_0 := B_r.cell 0 rfl; have q_r_1 := B_r.cell 1 rfl; have q_r_2 := B_r.cell 2 rfl; have f_r_0 := B_r.frozen 0; have f_r_1 := B_r.frozen 1; have f_r_2 := B_r.frozen 2; have q_x := B_x.lt; have q_r := B_r.lt)
     | (refine stepNamed ?_; intro p5 hp5; clear q_x_0 q_x_1 q_x_2 f_x_0 f_x_1 f_x_2 q_r_0 q_r_1 q_r_2 f_r_0 f_r_1 f_r_2 q_x q_r; have O5 : Old w p5 := (by rw [hp5]; exact Below.trans (b := cur) O oldA); replace B_x := (show Bx p5 (w.heap.size) #[.bool (sgnZ z1), .slice A1 (len (magZ z1)) c1, .slice D1 (len d1) e1] by rw [hp5]; repeat' (first | (with_reducible exact B_x) | (with_reducible refine Bx.alloc ?_ _) | (with_reducible refine Bx.drewN ?_ _) | (with_reducible refine Bx.drew ?_))); replace B_r := (show Bx p5 (w.heap.size + 1) #[.bool false, .slice none 0 0, .slice none 0 0] by rw [hp5]; repeat' (first | (with_reducible exact B_r) | (with_reducible refine Bx.alloc ?_ _) | (with_reducible refine Bx.drewN ?_ _) | (with_reducible refine Bx.drew ?_))); have zc5 : cur.heap.size ≤ p5.heap.size := (by rw [hp5]; exact leA); have zs5 := congrArg (fun x => x.heap.size) hp5; (try simp at zs5); (first | (replace r7 := Row.at r7 p5 (by rw [hp5]; repeat' (first | (with_reducible exact r7) | (with_reducible refine Row.alloc' ?_ _) | (with_reducible refine Row.drewN ?_ _) | (with_reducible refine Row.drew' ?_)))) | skip); refine step_clone (w := p5) (by rfl) (.tmp 11) (.tmp 13) (by rfl) (by rfl) (by rw [hp5]; repeat' (first | (with_reducible refine Own0.drewN ?_ _) | (with_reducible refine Own0.drew ?_) | (refine Own0.new' ?_; first | with_reducible rfl | (simp; done)) | (with_reducible refine Own0.alloc ?_ _) | (refine Own0.old (w := p7) ?_ o7; rw [hp7]))) (by rfl) (Row.below (B := w.heap.size) k1 O5 (Nat.le_refl _)) (by omega) ?_; intro A5 c5 cur r5 gr5 at5; have zg5 := gr5.size; have O := Below.growG O5 gr5 O5.size (by omega); replace B_x := B_x.keptG gr5 (by omega); replace B_r := B_r.keptG gr5 (by omega); replace r5 := Row.more (lo' := w.heap.size + 2) r5 (by omega); have lim_5 := Row.lim r5; (first | (replace r7 := Row.keptG r7 gr5 (by intro h0 a ea eg; have h1 := lim_7 h0 a ea; have h2 := low_7 h0 a ea; omega)) | skip); have q_x_0 := B_x.cell 0 rfl; have q_x_1 := B_x.cell 1 rfl; have q_x_2 := B_x.cell 2 rfl; have f_x_0 := B_x.frozen 0; have f_x_1 := B_x.frozen 1; have f_x_2 := B_x.frozen 2; have q_r_0 := B_r.cell 0 rfl; have q_r_1 := B_r.cell 1 rfl; have q_r_2 := B_r.cell 2 rfl; have f_r_0 := B_r.frozen 0; have f_r_1 := B_r.frozen 1; have f_r_2 := B_r.frozen 2; have q_x := B_x.lt; have q_r := B_r.lt)
     | fail)
  all_goals (go_wp2_with fail; refine bodyPost_ret (v := .agg #[.bool (sgnZ (-z1)), .slice A7 (len (magZ (-z1))) c7, .slice A5 (len d1) c5]) (by simp [results, Try.results30, go_sem, q_r_0, q_r_1, q_r_2]) rfl ⟨⟨-z1, d1, A7, c7, A5, c5, rfl, rfl, (by (refine Row.more (lo := w.heap.size + 2) ?_ leA; repeat' (first | (with_reducible exact r7) | (with_reducible refine Row.drewN ?_ _) | (with_reducible refine Row.drew' ?_) | (with_reducible refine Row.alloc' ?_ _) | (with_reducible refine Row.far_set ?_ (by first | (simp <;> done) | (simp; omega) | omega) _)))), (by (refine Row.more (lo := w.heap.size + 2) ?_ leA; repeat' (first | (with_reducible exact r5) | (with_reducible refine Row.drewN ?_ _) | (with_reducible refine Row.drew' ?_) | (with_reducible refine Row.alloc' ?_ _) | (with_reducible refine Row.far_set ?_ (by first | (simp <;> done) | (simp; omega) | omega) _)))), (by intro a a' h1 h2 e1 e2 e; have := low_7 h1 a e1; have := lim_7 h1 a e1; have := lim_5 h2 a' e2; have := at5 a' e2; omega)⟩, Below.trans (b := cur) O oldA⟩)
  skip
end Go.Proofs.Ytgchbbjhdeobpaa
