/- Lean functions of the Go functions that the law FnExactChainOuts reaches, and the proofs that the calls come to what they say (made by program). -/
import Derived.Test.YtminippcikenfaaPFnExactChainOutsx0
import Derived.Test.YtminippcikenfaaPFnExactChainOutsx1
import Derived.Test.YtminippcikenfaaPFnExactChainOutsx2
import Derived.Test.YtminippcikenfaaPFnExactChainOutsx5
import Derived.Test.YtminippcikenfaaPFnExactChainOutsx6
namespace Go.Proofs.Ytminippcikenfaa.PFnExactChainOuts
open Go.RowKit Go.Proofs.YtminippcikenfaaW.PrintWords Go.Proofs.YtminippcikenfaaW.PrintLast Go.Proofs.YtminippcikenfaaW.PrintMore
attribute [local go_sem] max2_int min2_int max_two min_two max_three min_three max_four min_four   -- for this text's walks alone
set_option linter.unusedVariables false
set_option linter.unusedSimpArgs false

/-! ### laws_FnExactChainOuts: function 6 -/
/-- the blocks from lo on, below hi -/
def Iv (lo hi : Nat) : Nat → Prop := fun k => lo ≤ k ∧ k < hi
theorem Iv.apart {a b c d k : Nat} (h1 : Iv a b k) (h2 : Iv c d k) (h : b ≤ c ∨ d ≤ a) : False := by
  obtain ⟨p, q⟩ := h1
  obtain ⟨r, s⟩ := h2
  omega
theorem R_ivl {α : Type} {d : Kd α} {e b0 : Nat} {W W1 : World} {ok : Nat → Prop} {v : Value} {xs : List α} (h : d.R e W1 W.heap.size ok v xs) (hb : b0 ≤ W.heap.size) : d.R e W1 b0 (Iv W.heap.size W1.heap.size) v xs := Kd.R_lower (Kd.R_mono (Kd.R_bound h) (fun k hk => ⟨hk.2.1, hk.2.2.1⟩)) hb
theorem S_ivl {α : Type} {d : Kd α} {e b0 : Nat} {W W1 : World} {ok : Nat → Prop} {v : Value} {xs : List α} (h : Kd.S d e W1 W.heap.size ok v xs) (hb : b0 ≤ W.heap.size) : Kd.S d e W1 b0 (Iv W.heap.size W1.heap.size) v xs := Kd.S_lower (Kd.S_mono (Kd.S_bound h) (fun k hk => ⟨hk.2.1, hk.2.2.1⟩)) hb
theorem calls_len {P : Program} {f : FuncId} {A : Option Addr} {n n1 c : Nat} {x : Value} {w : World} {Q : Ending → World → Prop} (h : n = n1) (hc : Calls P f #[.slice A n1 c, x] w Q) : Calls P f #[.slice A n c, x] w Q := by rw [h]; exact hc
theorem drawn_below {w w' : World} (h : Drawn0 w w') : Below w.heap.size w w' := by
  obtain ⟨m, rfl⟩ := h
  exact pw_below_drewN (Below.refl _ _) m
def laws_FnExactChainOuts.f (k : Nat) (l0 : List S23) (l1 : List Int) : Option Bool := if (l1.length : Int) > 1048576 then some true else (laws_szSiphonS.f l0 1048576).bind fun z => if z < 0 then some true else (laws_toSiphonS.f k l0).bind fun s => (laws_toIntS.f k l1).bind fun x => (spec_ChainOuts.f k s x).bind fun wr => (impl_ChainOuts.f k s x).bind fun gr => (laws_eqIntSS.f k gr.1 wr.1).bind fun e1 => if e1 = true ∧ gr.2 = wr.2 then (laws_eqSiphonS.f k s s).bind fun e2 => if e2 = true then (laws_eqIntS.f k x x).bind fun e3 => if e3 = true then (laws_markSiphonS.f k s 1).bind fun m1 => (laws_markIntS.f k x m1.1).bind fun m2 => if m2.1 < 0 then some false else (laws_markIntSS.f k gr.1 1).bind fun m3 => (laws_heldIntSS.f k m3.2 1).bind fun q => if q < 0 then some false else if q = m3.1 then some true else some false else some false else some false else some false
set_option maxHeartbeats 8000000 in
set_option maxRecDepth 100000 in
theorem laws_FnExactChainOuts.main (k : Nat) (A0 : Option Addr) (c0 : Nat) (l0 : List (S23)) (A1 : Option Addr) (c1 : Nat) (l1 : List (Int)) (z : Int) (s : List S29) (x : List Int) (wl gl gl' : List (List Int)) (wb : Bool) (m1 m2 m3 : Int) (s' : List S29) (x' : List Int) (w : World) (hr0 : Kd.C k23 w A0 l0.length l0) (hc0 : l0.length ≤ c0) (hr1 : Kd.C (Kd.int .i64) w A1 l1.length l1) (hc1 : l1.length ≤ c1) (hl : ¬ (l1.length : Int) > 1048576)
    (A0_ : laws_szSiphonS.f l0 1048576 = some z) (hz : ¬ z < 0) (A1_ : laws_toSiphonS.f k l0 = some s) (A2 : laws_toIntS.f k l1 = some x) (A3 : spec_ChainOuts.f k s x = some (wl, wb)) (A4 : impl_ChainOuts.f k s x = some (gl, wb)) (A5 : laws_eqIntSS.f k gl wl = some true) (A6 : laws_eqSiphonS.f k s s = some true) (A7 : laws_eqIntS.f k x x = some true)
    (A8 : laws_markSiphonS.f k s 1 = some (m1, s')) (A9 : laws_markIntS.f k x m1 = some (m2, x')) (hm : ¬ m2 < 0) (A10 : laws_markIntSS.f k gl 1 = some (m3, gl')) (A11 : laws_heldIntSS.f k gl' 1 = some m3) (hq : ¬ m3 < 0) :
    Calls Try.prog 6 #[.slice A0 l0.length c0, .slice A1 l1.length c1] w fun e w' => e = .returned (.bool true) ∧ Below w.heap.size w w' := by
  have HR0 := Aside0.mk hr0
  have HR1 := Aside0.mk hr1
  have HC0 := Aside0.mk hc0
  have HC1 := Aside0.mk hc1
  have HB := Aside0.mk (Below.refl w.heap.size w)
  have b0 : decide ((l1.length : Int) > 1048576) = false := decide_eq_false hl
  have b0' : decide (1048576 < (l1.length : Int)) = false := decide_eq_false (by omega)
  have b1 : decide (z < 0) = false := decide_eq_false hz
  have b2 : decide (m2 < 0) = false := decide_eq_false hm
  have b3 : decide (m3 < 0) = false := decide_eq_false hq
  have b4 : (wb != wb) = false := by simp
  have b5 : (m3 != m3) = false := by simp
  replace A0_ := Aside0.mk A0_
  replace A1_ := Aside0.mk A1_
  replace A2 := Aside0.mk A2
  replace A3 := Aside0.mk A3
  replace A4 := Aside0.mk A4
  replace A5 := Aside0.mk A5
  replace A6 := Aside0.mk A6
  replace A7 := Aside0.mk A7
  replace A8 := Aside0.mk A8
  replace A9 := Aside0.mk A9
  replace A10 := Aside0.mk A10
  replace A11 := Aside0.mk A11
  clear hr0 hr1 hc0 hc1 hl hz hm hq
  go_enter Try.func6, Try.ntmps6
  go_upto_region 7 with (first | (go_at_call 26; refine (laws_szSiphonS.calls A0 c0 l0 1048576 z _ (Kd.C_below HR0.out HB.out) HC0.out A0_.out).mono ?_; rintro e_ w1_ ⟨rfl, hd⟩; have hb := drawn_below hd; clear hd; have HZ1 := Aside0.mk hb.size; replace HB := Aside0.mk (below_then HB.out HB.out.size hb); clear hb))
  go_upto_region 8 with (first | (go_at_call 28; refine (laws_toSiphonS.calls k A0 c0 l0 s _ (Kd.C_below HR0.out HB.out) HC0.out A1_.out).mono ?_; rintro e_ w2_ ⟨v_S1, rfl, ho, hb⟩; obtain ⟨A_S1, c_S1, rfl⟩ := Kd.R_slice ho; have F_S1 := Aside0.mk (R_ivl ho HB.out.size); clear ho; have HZ2 := Aside0.mk hb.size; replace HB := Aside0.mk (below_then HB.out HB.out.size hb); clear hb) | (go_at_call 14; refine (laws_toIntS.calls k A1 c1 l1 x _ (Kd.C_below HR1.out HB.out) HC1.out A2.out).mono ?_; rintro e_ w3_ ⟨v_X1, rfl, ho, hb⟩; replace F_S1 := Aside0.mk (Kd.R_below F_S1.out hb); obtain ⟨A_X1, c_X1, rfl⟩ := Kd.R_slice ho; have F_X1 := Aside0.mk (R_ivl ho HB.out.size); clear ho; have HZ3 := Aside0.mk hb.size; replace HB := Aside0.mk (below_then HB.out HB.out.size hb); clear hb) | (go_at_call 27; refine (spec_ChainOuts.calls k _ _ s _ _ x wl wb _ ((Kd.R_reads' F_S1.out).2.2) ((Kd.R_reads' F_S1.out).2.1) ((Kd.R_reads' F_X1.out).2.2) ((Kd.R_reads' F_X1.out).2.1) A3.out).mono ?_; rintro e_ w4_ ⟨v_W1, rfl, ho, hb⟩; replace F_S1 := Aside0.mk (Kd.R_below F_S1.out hb); replace F_X1 := Aside0.mk (Kd.R_below F_X1.out hb); obtain ⟨A_W1, c_W1, rfl⟩ := Kd.S_slice ho; have F_W1 := Aside0.mk (S_ivl ho HB.out.size); clear ho; have HZ4 := Aside0.mk hb.size; replace HB := Aside0.mk (below_then HB.out HB.out.size hb); clear hb; clear F_S1 F_X1))
  go_upto_region 9 with (first | (go_at_call 28; refine (laws_toSiphonS.calls k A0 c0 l0 s _ (Kd.C_below HR0.out HB.out) HC0.out A1_.out).mono ?_; rintro e_ w5_ ⟨v_S2, rfl, ho, hb⟩; replace F_W1 := Aside0.mk (Kd.S_below F_W1.out hb); obtain ⟨A_S2, c_S2, rfl⟩ := Kd.R_slice ho; have F_S2 := Aside0.mk (R_ivl ho HB.out.size); clear ho; have HZ5 := Aside0.mk hb.size; replace HB := Aside0.mk (below_then HB.out HB.out.size hb); clear hb))
  go_upto_region 10 with (first | (go_at_call 14; refine (laws_toIntS.calls k A1 c1 l1 x _ (Kd.C_below HR1.out HB.out) HC1.out A2.out).mono ?_; rintro e_ w6_ ⟨v_X2, rfl, ho, hb⟩; replace F_W1 := Aside0.mk (Kd.S_below F_W1.out hb); replace F_S2 := Aside0.mk (Kd.R_below F_S2.out hb); obtain ⟨A_X2, c_X2, rfl⟩ := Kd.R_slice ho; have F_X2 := Aside0.mk (R_ivl ho HB.out.size); clear ho; have HZ6 := Aside0.mk hb.size; replace HB := Aside0.mk (below_then HB.out HB.out.size hb); clear hb))
  go_upto_region 11 with (first | (go_at_call 29; refine (impl_ChainOuts.calls k _ _ s _ _ x gl wb _ ((Kd.R_reads' F_S2.out).2.2) ((Kd.R_reads' F_S2.out).2.1) ((Kd.R_reads' F_X2.out).2.2) ((Kd.R_reads' F_X2.out).2.1) A4.out).mono ?_; rintro e_ w7_ ⟨v_G, rfl, ho, hb⟩; replace F_W1 := Aside0.mk (Kd.S_below F_W1.out hb); replace F_S2 := Aside0.mk (Kd.R_below F_S2.out hb); replace F_X2 := Aside0.mk (Kd.R_below F_X2.out hb); obtain ⟨A_G, c_G, rfl⟩ := Kd.S_slice ho; have F_G := Aside0.mk (S_ivl ho HB.out.size); clear ho; have HZ7 := Aside0.mk hb.size; replace HB := Aside0.mk (below_then HB.out HB.out.size hb); clear hb))
  go_upto_region 13 with (first | (go_at_call 30; refine (laws_eqIntSS.calls k _ _ gl _ _ wl true _ ((Kd.S_reads' F_G.out).2.2) ((Kd.S_reads' F_G.out).2.1) ((Kd.S_reads' F_W1.out).2.2) ((Kd.S_reads' F_W1.out).2.1) A5.out).mono ?_; rintro e_ w8_ ⟨rfl, hd⟩; have hb := drawn_below hd; clear hd; replace F_W1 := Aside0.mk (Kd.S_below F_W1.out hb); replace F_S2 := Aside0.mk (Kd.R_below F_S2.out hb); replace F_X2 := Aside0.mk (Kd.R_below F_X2.out hb); replace F_G := Aside0.mk (Kd.S_below F_G.out hb); have HZ8 := Aside0.mk hb.size; replace HB := Aside0.mk (below_then HB.out HB.out.size hb); clear hb))
  go_upto_region 15 with (first | (go_at_call 28; refine (laws_toSiphonS.calls k A0 c0 l0 s _ (Kd.C_below HR0.out HB.out) HC0.out A1_.out).mono ?_; rintro e_ w9_ ⟨v_S3, rfl, ho, hb⟩; replace F_W1 := Aside0.mk (Kd.S_below F_W1.out hb); replace F_S2 := Aside0.mk (Kd.R_below F_S2.out hb); replace F_X2 := Aside0.mk (Kd.R_below F_X2.out hb); replace F_G := Aside0.mk (Kd.S_below F_G.out hb); obtain ⟨A_S3, c_S3, rfl⟩ := Kd.R_slice ho; have F_S3 := Aside0.mk (R_ivl ho HB.out.size); clear ho; have HZ9 := Aside0.mk hb.size; replace HB := Aside0.mk (below_then HB.out HB.out.size hb); clear hb) | (go_at_call 31; refine (laws_eqSiphonS.calls k _ _ s _ _ s true _ ((Kd.R_reads' F_S2.out).2.2) ((Kd.R_reads' F_S2.out).2.1) ((Kd.R_reads' F_S3.out).2.2) ((Kd.R_reads' F_S3.out).2.1) A6.out).mono ?_; rintro e_ w10_ ⟨rfl, hb⟩; replace F_W1 := Aside0.mk (Kd.S_below F_W1.out hb); replace F_S2 := Aside0.mk (Kd.R_below F_S2.out hb); replace F_X2 := Aside0.mk (Kd.R_below F_X2.out hb); replace F_G := Aside0.mk (Kd.S_below F_G.out hb); replace F_S3 := Aside0.mk (Kd.R_below F_S3.out hb); have HZ10 := Aside0.mk hb.size; replace HB := Aside0.mk (below_then HB.out HB.out.size hb); clear hb; clear F_S3))
  go_upto_region 18 with (first | (go_at_call 14; refine (laws_toIntS.calls k A1 c1 l1 x _ (Kd.C_below HR1.out HB.out) HC1.out A2.out).mono ?_; rintro e_ w11_ ⟨v_X3, rfl, ho, hb⟩; replace F_W1 := Aside0.mk (Kd.S_below F_W1.out hb); replace F_S2 := Aside0.mk (Kd.R_below F_S2.out hb); replace F_X2 := Aside0.mk (Kd.R_below F_X2.out hb); replace F_G := Aside0.mk (Kd.S_below F_G.out hb); obtain ⟨A_X3, c_X3, rfl⟩ := Kd.R_slice ho; have F_X3 := Aside0.mk (R_ivl ho HB.out.size); clear ho; have HZ11 := Aside0.mk hb.size; replace HB := Aside0.mk (below_then HB.out HB.out.size hb); clear hb) | (go_at_call 16; refine (laws_eqIntS.calls k _ _ x _ _ x true _ ((Kd.R_reads' F_X2.out).2.2) ((Kd.R_reads' F_X2.out).2.1) ((Kd.R_reads' F_X3.out).2.2) ((Kd.R_reads' F_X3.out).2.1) A7.out).mono ?_; rintro e_ w12_ ⟨rfl, hd⟩; have hb := drawn_below hd; clear hd; replace F_W1 := Aside0.mk (Kd.S_below F_W1.out hb); replace F_S2 := Aside0.mk (Kd.R_below F_S2.out hb); replace F_X2 := Aside0.mk (Kd.R_below F_X2.out hb); replace F_G := Aside0.mk (Kd.S_below F_G.out hb); replace F_X3 := Aside0.mk (Kd.R_below F_X3.out hb); have HZ12 := Aside0.mk hb.size; replace HB := Aside0.mk (below_then HB.out HB.out.size hb); clear hb; clear F_X3))
  go_upto_region 19 with (first | (go_at_call 32; refine (laws_markSiphonS.calls k (Iv w4_.heap.size w5_.heap.size) _ s 1 m1 s' w _ HB.out F_S2.out A8.out).mono ?_; rintro e_ w13_ ⟨rfl, ho, hB, hK⟩; have HZ13 := Aside0.mk hK.1; replace F_W1 := Aside0.mk (Kd.S_kept F_W1.out hK (fun k_ h1_ h2_ => h1_.apart h2_ (by have z1_ := HZ1.out; have z2_ := HZ2.out; have z3_ := HZ3.out; have z4_ := HZ4.out; have z5_ := HZ5.out; have z6_ := HZ6.out; have z7_ := HZ7.out; have z8_ := HZ8.out; have z9_ := HZ9.out; have z10_ := HZ10.out; have z11_ := HZ11.out; have z12_ := HZ12.out; have z13_ := HZ13.out; omega))); replace F_X2 := Aside0.mk (Kd.R_kept F_X2.out hK (fun k_ h1_ h2_ => h1_.apart h2_ (by have z1_ := HZ1.out; have z2_ := HZ2.out; have z3_ := HZ3.out; have z4_ := HZ4.out; have z5_ := HZ5.out; have z6_ := HZ6.out; have z7_ := HZ7.out; have z8_ := HZ8.out; have z9_ := HZ9.out; have z10_ := HZ10.out; have z11_ := HZ11.out; have z12_ := HZ12.out; have z13_ := HZ13.out; omega))); replace F_G := Aside0.mk (Kd.S_kept F_G.out hK (fun k_ h1_ h2_ => h1_.apart h2_ (by have z1_ := HZ1.out; have z2_ := HZ2.out; have z3_ := HZ3.out; have z4_ := HZ4.out; have z5_ := HZ5.out; have z6_ := HZ6.out; have z7_ := HZ7.out; have z8_ := HZ8.out; have z9_ := HZ9.out; have z10_ := HZ10.out; have z11_ := HZ11.out; have z12_ := HZ12.out; have z13_ := HZ13.out; omega))); clear F_S2; replace HB := Aside0.mk hB; clear ho hB hK))
  go_upto_region 20 with (first | (go_at_call 19; refine (laws_markIntS.calls k (Iv w5_.heap.size w6_.heap.size) _ x m1 m2 x' w _ HB.out F_X2.out A9.out).mono ?_; rintro e_ w14_ ⟨rfl, ho, hB, hK⟩; have HZ14 := Aside0.mk hK.1; replace F_W1 := Aside0.mk (Kd.S_kept F_W1.out hK (fun k_ h1_ h2_ => h1_.apart h2_ (by have z1_ := HZ1.out; have z2_ := HZ2.out; have z3_ := HZ3.out; have z4_ := HZ4.out; have z5_ := HZ5.out; have z6_ := HZ6.out; have z7_ := HZ7.out; have z8_ := HZ8.out; have z9_ := HZ9.out; have z10_ := HZ10.out; have z11_ := HZ11.out; have z12_ := HZ12.out; have z13_ := HZ13.out; have z14_ := HZ14.out; omega))); replace F_G := Aside0.mk (Kd.S_kept F_G.out hK (fun k_ h1_ h2_ => h1_.apart h2_ (by have z1_ := HZ1.out; have z2_ := HZ2.out; have z3_ := HZ3.out; have z4_ := HZ4.out; have z5_ := HZ5.out; have z6_ := HZ6.out; have z7_ := HZ7.out; have z8_ := HZ8.out; have z9_ := HZ9.out; have z10_ := HZ10.out; have z11_ := HZ11.out; have z12_ := HZ12.out; have z13_ := HZ13.out; have z14_ := HZ14.out; omega))); clear F_X2; replace HB := Aside0.mk hB; clear ho hB hK))
  go_upto_region 23 with (first | (go_at_call 30; refine (laws_eqIntSS.calls k _ _ gl _ _ wl true _ ((Kd.S_reads' F_G.out).2.2) ((Kd.S_reads' F_G.out).2.1) ((Kd.S_reads' F_W1.out).2.2) ((Kd.S_reads' F_W1.out).2.1) A5.out).mono ?_; rintro e_ w15_ ⟨rfl, hd⟩; have hb := drawn_below hd; clear hd; replace F_W1 := Aside0.mk (Kd.S_below F_W1.out hb); replace F_G := Aside0.mk (Kd.S_below F_G.out hb); have HZ15 := Aside0.mk hb.size; replace HB := Aside0.mk (below_then HB.out HB.out.size hb); clear hb))
  go_upto_region 25 with (first | (go_at_call 33; refine (laws_markIntSS.calls k (Iv w6_.heap.size w7_.heap.size) _ _ gl 1 m3 gl' w _ HB.out F_G.out A10.out).mono ?_; rintro e_ w16_ ⟨rfl, ho, hB, hK⟩; have HZ16 := Aside0.mk hK.1; replace F_W1 := Aside0.mk (Kd.S_kept F_W1.out hK (fun k_ h1_ h2_ => h1_.apart h2_ (by have z1_ := HZ1.out; have z2_ := HZ2.out; have z3_ := HZ3.out; have z4_ := HZ4.out; have z5_ := HZ5.out; have z6_ := HZ6.out; have z7_ := HZ7.out; have z8_ := HZ8.out; have z9_ := HZ9.out; have z10_ := HZ10.out; have z11_ := HZ11.out; have z12_ := HZ12.out; have z13_ := HZ13.out; have z14_ := HZ14.out; have z15_ := HZ15.out; have z16_ := HZ16.out; omega))); replace F_G := Aside0.mk ho; have HN_G := Aside0.mk (Kd.S_reads' F_G.out).1; replace HB := Aside0.mk hB; clear ho hB hK))
  go_upto_region 30 with (first | (go_at_call 34; refine (calls_len HN_G.out (laws_heldIntSS.calls k _ _ gl' 1 m3 _ ((Kd.S_reads' F_G.out).2.2) (Nat.le_trans (Nat.le_of_eq HN_G.out.symm) (Kd.S_reads' F_G.out).2.1) A11.out)).mono ?_; rintro e_ w17_ ⟨rfl, hd⟩; have hb := drawn_below hd; clear hd; replace F_W1 := Aside0.mk (Kd.S_below F_W1.out hb); replace F_G := Aside0.mk (Kd.S_below F_G.out hb); have HZ17 := Aside0.mk hb.size; replace HB := Aside0.mk (below_then HB.out HB.out.size hb); clear hb))
  go_upto_region 31 with (first | (go_at_call 28; refine (laws_toSiphonS.calls k A0 c0 l0 s _ (Kd.C_below HR0.out HB.out) HC0.out A1_.out).mono ?_; rintro e_ w18_ ⟨v_S4, rfl, ho, hb⟩; replace F_W1 := Aside0.mk (Kd.S_below F_W1.out hb); replace F_G := Aside0.mk (Kd.S_below F_G.out hb); obtain ⟨A_S4, c_S4, rfl⟩ := Kd.R_slice ho; have F_S4 := Aside0.mk (R_ivl ho HB.out.size); clear ho; have HZ18 := Aside0.mk hb.size; replace HB := Aside0.mk (below_then HB.out HB.out.size hb); clear hb) | (go_at_call 14; refine (laws_toIntS.calls k A1 c1 l1 x _ (Kd.C_below HR1.out HB.out) HC1.out A2.out).mono ?_; rintro e_ w19_ ⟨v_X4, rfl, ho, hb⟩; replace F_W1 := Aside0.mk (Kd.S_below F_W1.out hb); replace F_G := Aside0.mk (Kd.S_below F_G.out hb); replace F_S4 := Aside0.mk (Kd.R_below F_S4.out hb); obtain ⟨A_X4, c_X4, rfl⟩ := Kd.R_slice ho; have F_X4 := Aside0.mk (R_ivl ho HB.out.size); clear ho; have HZ19 := Aside0.mk hb.size; replace HB := Aside0.mk (below_then HB.out HB.out.size hb); clear hb) | (go_at_call 29; refine (impl_ChainOuts.calls k _ _ s _ _ x gl wb _ ((Kd.R_reads' F_S4.out).2.2) ((Kd.R_reads' F_S4.out).2.1) ((Kd.R_reads' F_X4.out).2.2) ((Kd.R_reads' F_X4.out).2.1) A4.out).mono ?_; rintro e_ w20_ ⟨v_H, rfl, ho, hb⟩; replace F_W1 := Aside0.mk (Kd.S_below F_W1.out hb); replace F_G := Aside0.mk (Kd.S_below F_G.out hb); replace F_S4 := Aside0.mk (Kd.R_below F_S4.out hb); replace F_X4 := Aside0.mk (Kd.R_below F_X4.out hb); obtain ⟨A_H, c_H, rfl⟩ := Kd.S_slice ho; have F_H := Aside0.mk (S_ivl ho HB.out.size); clear ho; have HZ20 := Aside0.mk hb.size; replace HB := Aside0.mk (below_then HB.out HB.out.size hb); clear hb; clear F_S4 F_X4))
  go_upto_region 34 with (first | (go_at_call 30; refine (laws_eqIntSS.calls k _ _ gl _ _ wl true _ ((Kd.S_reads' F_H.out).2.2) ((Kd.S_reads' F_H.out).2.1) ((Kd.S_reads' F_W1.out).2.2) ((Kd.S_reads' F_W1.out).2.1) A5.out).mono ?_; rintro e_ w21_ ⟨rfl, hd⟩; have hb := drawn_below hd; clear hd; replace F_W1 := Aside0.mk (Kd.S_below F_W1.out hb); replace F_G := Aside0.mk (Kd.S_below F_G.out hb); replace F_H := Aside0.mk (Kd.S_below F_H.out hb); have HZ21 := Aside0.mk hb.size; replace HB := Aside0.mk (below_then HB.out HB.out.size hb); clear hb))
  go_wp2_with (first | (go_at_call 34; refine (calls_len HN_G.out (laws_heldIntSS.calls k _ _ gl' 1 m3 _ ((Kd.S_reads' F_G.out).2.2) (Nat.le_trans (Nat.le_of_eq HN_G.out.symm) (Kd.S_reads' F_G.out).2.1) A11.out)).mono ?_; rintro e_ w22_ ⟨rfl, hd⟩; have hb := drawn_below hd; clear hd; replace F_W1 := Aside0.mk (Kd.S_below F_W1.out hb); replace F_G := Aside0.mk (Kd.S_below F_G.out hb); replace F_H := Aside0.mk (Kd.S_below F_H.out hb); have HZ22 := Aside0.mk hb.size; replace HB := Aside0.mk (below_then HB.out HB.out.size hb); clear hb))
  go_ret
  exact ⟨by first | rfl | simp, HB.out⟩
set_option maxHeartbeats 8000000 in
set_option maxRecDepth 100000 in
theorem laws_FnExactChainOuts.calls (k : Nat) (A0 : Option Addr) (c0 : Nat) (l0 : List (S23)) (A1 : Option Addr) (c1 : Nat) (l1 : List (Int)) (w : World) (hr0 : Kd.C k23 w A0 l0.length l0) (hc0 : l0.length ≤ c0) (hr1 : Kd.C (Kd.int .i64) w A1 l1.length l1) (hc1 : l1.length ≤ c1) (h : laws_FnExactChainOuts.f k l0 l1 = some true) :
    Calls Try.prog 6 #[.slice A0 l0.length c0, .slice A1 l1.length c1] w fun e w' => e = .returned (.bool true) ∧ Below w.heap.size w w' := by
  unfold laws_FnExactChainOuts.f at h
  by_cases hl : (l1.length : Int) > 1048576
  · have b0 : decide ((l1.length : Int) > 1048576) = true := decide_eq_true hl
    have b0' : decide (1048576 < (l1.length : Int)) = true := decide_eq_true (by omega)
    have HB := Aside0.mk (Below.refl w.heap.size w)
    clear h hr0 hr1 hc0 hc1 hl
    go_enter Try.func6, Try.ntmps6
    go_wp2
    go_ret
    exact ⟨by first | rfl | simp, HB.out⟩
  rw [if_neg hl] at h
  replace h := Option.bind_eq_some_iff.mp h
  obtain ⟨z, A0_, h⟩ := h
  by_cases hz : z < 0
  · have b0 : decide ((l1.length : Int) > 1048576) = false := decide_eq_false hl
    have b0' : decide (1048576 < (l1.length : Int)) = false := decide_eq_false (by omega)
    have b1 : decide (z < 0) = true := decide_eq_true hz
    have HB := Aside0.mk (Below.refl w.heap.size w)
    have HR0 := Aside0.mk hr0
    have HC0 := Aside0.mk hc0
    replace A0_ := Aside0.mk A0_
    clear h hr0 hr1 hc0 hc1 hl hz
    go_enter Try.func6, Try.ntmps6
    go_wp2_with (go_at_call 26; refine (laws_szSiphonS.calls A0 c0 l0 1048576 z _ (Kd.C_below HR0.out HB.out) HC0.out A0_.out).mono ?_; rintro e_ w1_ ⟨rfl, hd⟩; have hb := drawn_below hd; have HB1 := Aside0.mk (below_then HB.out HB.out.size hb); clear hd hb)
    go_ret
    exact ⟨by first | rfl | simp, HB1.out⟩
  rw [if_neg hz] at h
  replace h := Option.bind_eq_some_iff.mp h
  obtain ⟨s, A1_, h⟩ := h
  replace h := Option.bind_eq_some_iff.mp h
  obtain ⟨x, A2, h⟩ := h
  replace h := Option.bind_eq_some_iff.mp h
  obtain ⟨⟨wl, wb⟩, A3, h⟩ := h
  replace h := Option.bind_eq_some_iff.mp h
  obtain ⟨⟨gl, gb⟩, A4, h⟩ := h
  replace h := Option.bind_eq_some_iff.mp h
  obtain ⟨e1, A5, h⟩ := h
  dsimp only at h A5
  by_cases c1 : e1 = true ∧ gb = wb
  case neg => rw [if_neg c1] at h; exact absurd h (by simp)
  rw [if_pos c1] at h
  obtain ⟨rfl, rfl⟩ := c1
  replace h := Option.bind_eq_some_iff.mp h
  obtain ⟨e2, A6, h⟩ := h
  by_cases c2 : e2 = true
  case neg => rw [if_neg c2] at h; exact absurd h (by simp)
  rw [if_pos c2] at h
  subst c2
  replace h := Option.bind_eq_some_iff.mp h
  obtain ⟨e3, A7, h⟩ := h
  by_cases c3 : e3 = true
  case neg => rw [if_neg c3] at h; exact absurd h (by simp)
  rw [if_pos c3] at h
  subst c3
  replace h := Option.bind_eq_some_iff.mp h
  obtain ⟨⟨m1, s'⟩, A8, h⟩ := h
  replace h := Option.bind_eq_some_iff.mp h
  obtain ⟨⟨m2, x'⟩, A9, h⟩ := h
  dsimp only at h A9
  by_cases hm : m2 < 0
  · rw [if_pos hm] at h; exact absurd h (by simp)
  rw [if_neg hm] at h
  replace h := Option.bind_eq_some_iff.mp h
  obtain ⟨⟨m3, gl'⟩, A10, h⟩ := h
  replace h := Option.bind_eq_some_iff.mp h
  obtain ⟨q, A11, h⟩ := h
  dsimp only at h A11
  by_cases hq : q < 0
  · rw [if_pos hq] at h; exact absurd h (by simp)
  rw [if_neg hq] at h
  by_cases c4 : q = m3
  case neg => rw [if_neg c4] at h; exact absurd h (by simp)
  subst c4
  exact laws_FnExactChainOuts.main k A0 c0 l0 A1 c1 l1 z s x wl gl gl' _ m1 m2 q s' x' w hr0 hc0 hr1 hc1 hl A0_ hz A1_ A2 A3 A4 A5 A6 A7 A8 A9 hm A10 A11 hq

end Go.Proofs.Ytminippcikenfaa.PFnExactChainOuts
