/- Walks: copies of matrices. -/
import Derived.Test.YtlmddncoeikfjaaDoorVF
namespace Go.Proofs.YtlmddncoeikfjaaDoor
open Go.RowKit Go.Proofs.YtlmddncoeikfjaaDoorW.PrintWords
set_option maxRecDepth 100000
set_option maxHeartbeats 400000

theorem cal_model_matrix (w0 : World) (x : SM) (cs : List Value) (hx : kM.K w0 x cs) (hsm : x.f2.length ≤ 100000) : Cal Tryd.prog 72 #[.agg cs.toArray] w0 fun v w1 => Below w0.heap.size w0 w1 ∧ ∃ cs, v = .agg cs.toArray ∧ kM.M w1 w0.heap.size (fun _ => True) x cs := by
  obtain ⟨A, c, rfl, hl, hC⟩ := kM_open hx
  refine cal_W (n := 8) Tryd.func72 rfl rfl (by simp) ?_
  have hs := Sep.refl w0
  refine W_seq ?_
  refine W_region ?_
  refine L_op rfl (o_box (cs := [_, _, _]) rfl rfl hs ?_)  -- t1 := box 26 t0
  intro g1 w1 hs
  refine L_op rfl (o_alloc al_26 hs ?_)  -- t2 := alloc 26
  intro g2 w1 hs
  refine L_nil ?_
  refine W_seq ?_
  refine W_region ?_
  refine L_q rfl (y_fa fa_26_2 rfl) ?_  -- t3 := fieldAddr 26 t1 2
  refine L_q rfl (y_fld r_24 rfl (rg_of_range (hs.rg 1 rfl 2 1 rfl))) ?_  -- t4 := load 24 t3
  refine L_op rfl (o_callR en_73 rfl hs (cal_model_narrow _ A c x.f2 (Kd.C_below hC hs.below) hsm) ?_)  -- t5 := CALL f73(t4) :24
  intro v5 w1 hb hs
  obtain ⟨A5, c5, rfl⟩ := Kd.R_slice hs.outR
  refine L_q rfl (y_fa fa_26_2 rfl) ?_  -- t6 := fieldAddr 26 t1 2
  refine L_op rfl (o_store (seg := [_]) (cs' := [_, _, _]) sz_24 rfl rfl rfl rfl (hs.front 2) (Nat.le_of_ble_eq_true rfl) rfl ?_)  -- store 24 t6 t5
  intro w1 hs
  refine L_nil ?_
  refine W_seq ?_
  refine W_region ?_
  refine L_q rfl (y_fls (cs := [_, _, _]) r_26 sz_26 rfl (rg_of_range (hs.rg 0 rfl 0 3 rfl))) ?_  -- t7 := load 26 t1
  refine L_op rfl (o_store (seg := [_, _, _]) (cs' := [_, _, _]) sz_26 rfl rfl rfl rfl (hs.front 2) (Nat.le_of_ble_eq_true rfl) rfl ?_)  -- store 26 t2 t7
  intro w1 hs
  refine L_nil ?_
  refine W_ret ?_
  -- sep: g2 g1 row5
  refine ret_one rfl (.cell (cs := [_, _, _]) rfl r_26 sz_26 (hs.rg 0 rfl 0 3 rfl) .nil) ⟨_, rfl, hs.below, ?_⟩
  exact ⟨_, rfl, kM_mkM _ _ _ x (hs.front 2).outR⟩
end Go.Proofs.YtlmddncoeikfjaaDoor
