/- The walk of the law GraphLess. -/
import Derived.Test.YtjficnndocjodaaHGAwake
import Derived.Test.YtjficnndocjodaaHLess
import Derived.IntWalk
namespace Go.Proofs.Ytjficnndocjodaa.H
open Go.RowKit Go.Proofs.YtjficnndocjodaaW.PrintWords Go.Proofs.YtjficnndocjodaaW.PrintLast Go.Proofs.YtjficnndocjodaaW.PrintMore
open Go.Proofs.Ytjficnndocjodaa.PGraphs
set_option linter.unusedVariables false
set_option linter.unusedSimpArgs false

theorem info57x : (Try.prog.info? 57).map (fun i => (i.zero, i.size, i.bytes)) = some (some (.agg #[.int .i64 0, .int .i64 0, .int .i64 0, .slice none 0 0]), 4, 48) := by kernel_rfl
/-- Elements as they were read at one time. -/
def kC (w : World) : Kd La where
  sz := k57.sz
  E := []
  K := fun _ x cs => k57.K w x cs
  M := fun _ _ _ x cs => k57.K w x cs
  K_len := fun h => k57.K_len h
  K_one := fun h => k57.K_one h
  K_below := fun _ h => h
  K_of_M := fun h => h
  M_mono := fun _ h => h
  M_bound := fun h => h
  M_move := fun _ h => h
  M_lower := fun _ h => h
theorem rows_take {w : World} {A : Option Addr} {l : List La} (h : Kd.C k57 w A l.length l) (k : Nat) (hk : k ≤ l.length) : ReadsRow (k57.K w) (kC w).sz w A k (l.take k) := by
  have h1 := Kd.C_take h hk
  rw [List.length_take, Nat.min_eq_left hk] at h1
  exact h1
theorem rows_drop {w : World} {A : Option Addr} {l : List La} (h : Kd.C k57 w A l.length l) (k c : Nat) (hk : k ≤ l.length) (hc : l.length ≤ c) : ReadsRow (k57.K w) (kC w).sz w (if c = k then A else A.map (·.add (k * 4))) (l.length - k) (l.drop k) := by
  have h1 := Kd.C_drop h hk hc
  rw [List.length_drop] at h1
  exact h1
theorem at_k (at0 : Int) (n : Nat) (h0 : 0 < n) (h : n ≤ 9223372036854775807) : ∃ k : Nat, wrap64 ((IntKind.u64.wrap at0).tmod (n : Int)) = (k : Int) ∧ k < n := by
  have h1 : 0 ≤ IntKind.u64.wrap at0 := by rw [IntKind.wrap_u64]; omega
  rw [Int.tmod_eq_emod_of_nonneg h1]
  have h2 := Int.emod_nonneg (IntKind.u64.wrap at0) (show (n : Int) ≠ 0 by omega)
  have h3 := Int.emod_lt_of_pos (IntKind.u64.wrap at0) (show (0 : Int) < n by omega)
  generalize IntKind.u64.wrap at0 % (n : Int) = z at h2 h3 ⊢
  refine ⟨z.toNat, ?_, by omega⟩
  unfold wrap64
  omega

set_option maxHeartbeats 4000000 in
set_option maxRecDepth 100000 in
theorem Less_bad (l : List La) (A : Option Addr) (cp : Nat) (at0 : Int) (w : World) (hr : Kd.C k57 w A l.length l) (hc : l.length ≤ cp) (hbad : storeOk l = false) :
    Calls Try.prog 12 #[.slice A l.length cp, .int .i64 at0] w fun e w' => e = .returned (.bool true) ∧ Below w.heap.size w w' := by
  have HR := Aside0.mk hr
  have HC := Aside0.mk hc
  have HOK := Aside0.mk hbad
  clear hr hc hbad
  have HB := Aside0.mk (Below.refl w.heap.size w)
  go_enter Try.func12, Try.ntmps12
  go_wp2_with (first | (go_at_call 25; refine (awake20_calls _).mono ?_; rintro e w1 ⟨rfl, hb1⟩; replace HB := Aside0.mk (below_step HB.out hb1); clear hb1) | (go_at_call 26; refine (ref_StoreMay_calls l A cp _ (Kd.C_below HR.out HB.out) HC.out).mono ?_; rintro e w1 ⟨rfl, hb1⟩; rw [HOK.out]; replace HB := Aside0.mk (below_step HB.out hb1); clear hb1))
  go_ret
  exact ⟨rfl, HB.out⟩
set_option maxHeartbeats 4000000 in
set_option maxRecDepth 100000 in
theorem Less_none (l : List La) (A : Option Addr) (cp : Nat) (at0 : Int) (w : World) (hr : Kd.C k57 w A l.length l) (hc : l.length ≤ cp) (hok : storeOk l = true) (h0 : l.length = 0) :
    Calls Try.prog 12 #[.slice A l.length cp, .int .i64 at0] w fun e w' => e = .returned (.bool true) ∧ Below w.heap.size w w' := by
  have HR := Aside0.mk hr
  have HC := Aside0.mk hc
  have HOK := Aside0.mk hok
  have t1 : ((l.length : Int) == 0) = true := by rw [h0]; rfl
  clear hr hc hok h0
  have HB := Aside0.mk (Below.refl w.heap.size w)
  go_enter Try.func12, Try.ntmps12
  go_wp2_with (first | (go_at_call 25; refine (awake20_calls _).mono ?_; rintro e w1 ⟨rfl, hb1⟩; replace HB := Aside0.mk (below_step HB.out hb1); clear hb1) | (go_at_call 26; refine (ref_StoreMay_calls l A cp _ (Kd.C_below HR.out HB.out) HC.out).mono ?_; rintro e w1 ⟨rfl, hb1⟩; rw [HOK.out]; replace HB := Aside0.mk (below_step HB.out hb1); clear hb1))
  go_ret
  exact ⟨rfl, HB.out⟩

set_option maxHeartbeats 4000000 in
set_option maxRecDepth 100000 in
theorem Less_full (l : List La) (ad : Addr) (cp : Nat) (at0 : Int) (w : World) (hr : Kd.C k57 w (some ad) l.length l) (hc : l.length ≤ cp) (hok : storeOk l = true) (h0 : 0 < l.length)
    (k : Nat) (hk : wrap64 ((IntKind.u64.wrap at0).tmod (l.length : Int)) = (k : Int)) (hkl : k < l.length) (hcp : cp = k + 1) :
    Calls Try.prog 12 #[.slice (some ad) l.length cp, .int .i64 at0] w fun e w' => e = .returned (.bool true) ∧ Below w.heap.size w w' := by
  have l63 : l.length ≤ 9223372036854775807 := hr.2.1
  have t1 : ((l.length : Int) == 0) = false := by simp; intro h; rw [h] at h0; exact absurd h0 (by decide)
  have kI : (k : Int) < (l.length : Int) := by omega
  obtain ⟨ad', A3, c3, hA, q0, q1, q2, q3, hl3, hC3⟩ := la_cells hr (Below.refl w.heap.size w) k hkl
  obtain rfl := Option.some.inj hA
  have hro := st_router l hok k hkl
  obtain ⟨f, hf⟩ : ∃ f, f = (laAt l k).f0 := ⟨_, rfl⟩
  rw [← hf] at q0 hro
  obtain ⟨r, hrr⟩ : ∃ r : Nat, f = (r : Int) + 1 := ⟨(f - 1).toNat, by omega⟩
  have rI : (r : Int) < 4 := by omega
  have wf : IntKind.i64.wrap (f - 1) = (r : Int) := by rw [IntWalk.i64_in _ (by omega)]; omega
  have wk : IntKind.i64.wrap ((k : Int) + 1) = (k : Int) + 1 := IntWalk.i64_in _ (by omega)
  have kc : (k : Int) < (cp : Int) := by omega
  have kc1 : (k : Int) + 1 ≤ (cp : Int) := by omega
  have kl1 : (k : Int) + 1 ≤ (l.length : Int) := by omega
  have HT := Aside0.mk (rows_take hr k (by omega))
  have HD0 := rows_drop hr (k + 1) cp (by omega) hc
  subst hcp
  rw [if_pos rfl] at HD0
  have HD := Aside0.mk HD0
  have HL4 := Aside0.mk (show l.length ≤ 4 from updOk_few l (by rw [storeOk, Bool.and_eq_true] at hok; exact hok.1))
  have HF := Aside0.mk (show (laAt l k).f0 = (r : Int) + 1 by rw [← hf]; exact hrr)
  obtain ⟨x, hx⟩ : ∃ x, x = bothTo (tellAt l l.length) 16 := ⟨_, rfl⟩
  obtain ⟨x', hx'⟩ : ∃ x, x = bothTo (tellAt (lessOf l k) (lessOf l k).length) 16 := ⟨_, rfl⟩
  have HL := Aside0.mk (show x.length = 16 by rw [hx]; exact bothTo_length _ _)
  have HL' := Aside0.mk (show x'.length = 16 by rw [hx']; exact bothTo_length _ _)
  have HGR1 := Aside0.mk (show graphOf l = (x, 0) by unfold graphOf; rw [hok, hx]; rfl)
  have HGR2 := Aside0.mk (show graphOf (lessOf l k) = (x', 0) by unfold graphOf; rw [storeOk_less l hok k hkl, hx']; rfl)
  have HLS := Aside0.mk (show ∀ a b : Nat, a < 4 → b < 4 → gt x' (a * 4 + b) = if a = r ∨ b = r then 0 else gt x (a * 4 + b) by rw [hx, hx']; exact fun a b ha hb => both_less l hok k hkl r HF.out a b ha hb)
  obtain ⟨lk, hlk⟩ : ∃ lk, lk = lessOf l k := ⟨_, rfl⟩
  rw [← hlk] at HGR2
  have HLK := Aside0.mk hlk
  clear hlk
  have HOK := Aside0.mk hok
  have HR := Aside0.mk hr
  have HC := Aside0.mk hc
  have HQ0 := Aside0.mk q0
  clear hr hc hok hro hf hrr q0 q1 q2 q3 hl3 hC3 HD0 hx hx' hA
  have HB := Aside0.mk (Below.refl w.heap.size w)
  go_enter Try.func12, Try.ntmps12
  go_wp2_with (first | (go_at_call 25; refine (awake20_calls _).mono ?_; rintro e w1 ⟨rfl, hb1⟩; replace HB := Aside0.mk (below_step HB.out hb1); clear hb1) | (go_at_call 26; refine (ref_StoreMay_calls l (some ad) _ _ (Kd.C_below HR.out HB.out) HC.out).mono ?_; rintro e w1 ⟨rfl, hb1⟩; rw [HOK.out]; replace HB := Aside0.mk (below_step HB.out hb1); clear hb1; have q0 := (HB.out.cell (World.block_lt_of_cell? w _ HQ0.out)).trans HQ0.out) | ((with_reducible refine gate_builtin (b := .append) (xs := #[.tmp 38, .tmp 41]) rfl ?_); at_builtin; refine Kd.R_append_rows (kC w) (w0 := w) w.heap.size rfl (.tmp 38) (.tmp 41) 48 57 (.agg #[.int .i64 0, .int .i64 0, .int .i64 0, .slice none 0 0]) 48 rfl Try.underlying48 info57x rfl (show (0 : Nat) < 4 by decide) (show (0 : Nat) < 48 by decide) (.slice (some ⟨w1.heap.size, 0, none⟩) 0 0) [] (l.take k) _ _ _ (fun _ => True) (fun _ => False) rfl rfl ?aO ?aR (fun _ _ h => h) (fun _ h => h.elim) (fun _ _ => trivial) ?aB ?aS ?aL ?_; (case aO => exact ⟨fun k hk => trivial, [], ⟨rfl, .inr ⟨_, 0, #[], rfl, HB.out.size, blk_new _ _, Nat.le_refl _, Nat.zero_le _, rfl, rfl⟩⟩, Reps.none _ _⟩); (case aR => exact ReadsRow.imp_ HT.out (below_alloc HB.out _) (fun _ _ h => h)); (case aB => exact below_alloc HB.out _); (case aS => exact (below_alloc HB.out _).size); (case aL => have := HL4.out; simp; omega); intro v1 w2 ho1 hb1 hg1 hat1; have HO := Aside0.mk (show Kd.R (kC w) 57 w2 w.heap.size (fun _ => True) v1 (l.take k) from ho1); replace HB := Aside0.mk hb1; clear ho1 hb1 hg1 hat1 q0) | ((with_reducible refine gate_builtin (b := .append) (xs := #[.tmp 43, .tmp 47]) rfl ?_); at_builtin; refine Kd.R_append_rows (kC w) (w0 := w) w.heap.size rfl (.tmp 43) (.tmp 47) 48 57 (.agg #[.int .i64 0, .int .i64 0, .int .i64 0, .slice none 0 0]) 48 rfl Try.underlying48 info57x rfl (show (0 : Nat) < 4 by decide) (show (0 : Nat) < 48 by decide) v1 (l.take k) (l.drop (k + 1)) _ _ _ (fun _ => True) (fun _ => False) rfl rfl ?aO ?aR (fun _ _ h => h) (fun _ h => h.elim) (fun _ _ => trivial) ?aB ?aS ?aL ?_; (case aO => exact HO.out); (case aR => exact ReadsRow.imp_ HD.out HB.out (fun _ _ h => h)); (case aB => exact HB.out); (case aS => exact HB.out.size); (case aL => have := HL4.out; rw [List.length_take]; omega); intro v2 w3 ho1 hb1 hg1 hat1; obtain ⟨A2, c2, hv2, hc2, hC2⟩ := Kd.R_reads ho1; rw [show l.take k ++ l.drop (k + 1) = lk from HLK.out.symm] at hv2 hc2 hC2; subst hv2; have HC2 := Aside0.mk (show Kd.C k57 w3 A2 lk.length lk from ReadsRow.imp_ hC2 (Below.refl _ _) (fun _ _ h => k57.K_below hb1 h)); have HLC2 := Aside0.mk hc2; replace HB := Aside0.mk hb1; have HBS := Aside0.mk (Below.refl w3.heap.size w3); clear ho1 hb1 hg1 hat1 HO hc2 hC2 HT HD) | (go_at_call 21; (with_reducible change Calls Try.prog _ #[Value.slice (some ad) l.length _] _ _); refine (Of_calls l (some ad) _ _ (Kd.C_below HR.out HB.out) HC.out).mono ?_; rintro e w1 ⟨rfl, hb1⟩; rw [HGR1.out]; replace HBS := Aside0.mk (below_step HBS.out hb1); replace HB := Aside0.mk (below_step HB.out hb1); clear hb1) | (go_at_call 21; (with_reducible change Calls Try.prog _ #[Value.slice A2 lk.length _] _ _); refine (Of_calls lk _ _ _ (Kd.C_below HC2.out HBS.out) HLC2.out).mono ?_; rintro e w1 ⟨rfl, hb1⟩; rw [HGR2.out]; replace HBS := Aside0.mk (below_step HBS.out hb1); replace HXg8 := Aside0.mk (HXg8.out.below hb1); replace HB := Aside0.mk (below_step HB.out hb1); clear hb1) | ((with_reducible refine gate_dst (N := 8) rfl ?_); refine box_event ?hg (N := 8) ?hd (cs := AV zs16) (t := 23) ?hr ?_; (case hd => rfl); (case hg => rfl); (case hr => first | (go_simp; done) | (go_simp; rfl)); intro g8 hg w1 hbox hb1; have HXg8 := Aside0.mk (show Blk w1 g8 23 zs16 from hbox); have HGg8 := Aside0.mk (show w.heap.size ≤ g8 by rw [hg]; exact HB.out.size); have HGS := Aside0.mk (show w3.heap.size ≤ g8 by rw [hg]; exact HBS.out.size); replace HBS := Aside0.mk (below_step HBS.out hb1); replace HB := Aside0.mk (below_step HB.out hb1); clear hbox hb1 hg) | ((with_reducible refine gate_dst (N := 10) rfl ?_); refine box_event ?hg (N := 10) ?hd (cs := AV zs16) (t := 23) ?hr ?_; (case hd => rfl); (case hg => rfl); (case hr => first | (go_simp; done) | (go_simp; rfl)); intro g10 hg w1 hbox hb1; have HXg10 := Aside0.mk (show Blk w1 g10 23 zs16 from hbox); have HGg10 := Aside0.mk (show w.heap.size ≤ g10 by rw [hg]; exact HB.out.size); have HN := Aside0.mk (show g8 ≠ g10 by rw [hg]; exact Nat.ne_of_lt HXg8.out.lt); replace HXg8 := Aside0.mk (HXg8.out.below hb1); replace HB := Aside0.mk (below_step HB.out hb1); clear hbox hb1 hg) | ((with_reducible refine gate_store (p := 8) rfl ?_); refine wpL_store rfl rfl rfl (c := x) rfl HXg8.out (by rw [HL.out]; exact size23) (by rw [HL.out]; rfl) ?_; intro w4 hX2 hP2; replace HXg8 := Aside0.mk hX2; replace HBS := Aside0.mk (hP2.below _ _ HBS.out HGS.out); replace HB := Aside0.mk (hP2.below _ _ HB.out HGg8.out); clear hX2 hP2) | ((with_reducible refine gate_store (p := 10) rfl ?_); refine wpL_store rfl rfl rfl (c := x') rfl HXg10.out (by rw [HL'.out]; exact size23) (by rw [HL'.out]; rfl) ?_; intro w4 hX2 hP2; replace HXg10 := Aside0.mk hX2; replace HXg8 := Aside0.mk (HXg8.out.put hP2 HN.out); replace HB := Aside0.mk (hP2.below _ _ HB.out HGg10.out); clear hX2 hP2) | (go_at_call 16; go_in))
  go_loopw [12] (fun i wr => ∃ a : Nat, a ≤ 4 ∧ i = .int .i64 (a : Int) ∧ Aside0 (Blk wr g8 23 x) ∧ Aside0 (Blk wr g10 23 x') ∧ Aside0 (Below w.heap.size w wr)) (fun i _ => 4 - (intOf i).toNat)
  case atStart => exact ⟨0, by omega, rfl, HXg8, HXg10, HB⟩
  case round =>
    clear HB HXg8 HXg10 HBS
    obtain ⟨a, ha, rfl, HXg8, HXg10, HB⟩ := hrel
    by_cases ha4 : a < 4
    · have aI : (a : Int) < 4 := by omega
      go_wp2_with (fail)
      go_loopw [13] (fun i wr => ∃ b : Nat, b ≤ 4 ∧ i = .int .i64 (b : Int) ∧ Aside0 (Blk wr g8 23 x) ∧ Aside0 (Blk wr g10 23 x') ∧ Aside0 (Below w.heap.size w wr)) (fun i _ => 4 - (intOf i).toNat)
      case atStart => exact ⟨0, by omega, rfl, HXg8, HXg10, HB⟩
      case round =>
        clear HB HXg8 HXg10
        obtain ⟨b, hb, rfl, HXg8, HXg10, HB⟩ := hrel
        by_cases hb4 : b < 4
        · have bI : (b : Int) < 4 := by omega
          have hls := HLS.out a b ha4 hb4
          have cy := HXg8.out.cell (a * 4 + b) (by rw [HL.out]; omega)
          have cz := HXg10.out.cell (a * 4 + b) (by rw [HL'.out]; omega)
          generalize gt x (a * 4 + b) = y at cy hls
          generalize gt x' (a * 4 + b) = z at cz hls
          by_cases e1 : a = r
          · have u1 : ((a : Int) == (r : Int)) = true := by simp [e1]
            rw [if_pos (.inl e1)] at hls
            subst hls
            clear e1
            go_wp2_with (fail)
            go_roundw
            case rel => exact ⟨b + 1, by omega, by go_num, HXg8, HXg10, HB⟩
            case measure => simp [intOf]; omega
          · have u1 : ((a : Int) == (r : Int)) = false := by simp; omega
            by_cases e2 : b = r
            · have u2 : ((b : Int) == (r : Int)) = true := by simp [e2]
              rw [if_pos (.inr e2)] at hls
              subst hls
              clear e1 e2
              go_wp2_with (fail)
              go_roundw
              case rel => exact ⟨b + 1, by omega, by go_num, HXg8, HXg10, HB⟩
              case measure => simp [intOf]; omega
            · have u2 : ((b : Int) == (r : Int)) = false := by simp; omega
              rw [if_neg (by omega)] at hls
              subst hls
              clear e1 e2
              go_wp2_with (fail)
              go_roundw
              case rel => exact ⟨b + 1, by omega, by go_num, HXg8, HXg10, HB⟩
              case measure => simp [intOf]; omega
        · have bI : ¬ (b : Int) < 4 := by omega
          go_wp2_with (fail)
          go_roundw
          case rel => exact ⟨a + 1, by omega, by go_num, HXg8, HXg10, HB⟩
          case measure => simp [intOf]; omega
    · have aI : ¬ (a : Int) < 4 := by omega
      go_wp2_with (fail)
      go_ret
      exact ⟨rfl, HB.out⟩
set_option maxHeartbeats 4000000 in
set_option maxRecDepth 100000 in
theorem Less_part (l : List La) (ad : Addr) (cp : Nat) (at0 : Int) (w : World) (hr : Kd.C k57 w (some ad) l.length l) (hc : l.length ≤ cp) (hok : storeOk l = true) (h0 : 0 < l.length)
    (k : Nat) (hk : wrap64 ((IntKind.u64.wrap at0).tmod (l.length : Int)) = (k : Int)) (hkl : k < l.length) (hcp : k + 1 < cp) :
    Calls Try.prog 12 #[.slice (some ad) l.length cp, .int .i64 at0] w fun e w' => e = .returned (.bool true) ∧ Below w.heap.size w w' := by
  have l63 : l.length ≤ 9223372036854775807 := hr.2.1
  have t1 : ((l.length : Int) == 0) = false := by simp; intro h; rw [h] at h0; exact absurd h0 (by decide)
  have kI : (k : Int) < (l.length : Int) := by omega
  obtain ⟨ad', A3, c3, hA, q0, q1, q2, q3, hl3, hC3⟩ := la_cells hr (Below.refl w.heap.size w) k hkl
  obtain rfl := Option.some.inj hA
  have hro := st_router l hok k hkl
  obtain ⟨f, hf⟩ : ∃ f, f = (laAt l k).f0 := ⟨_, rfl⟩
  rw [← hf] at q0 hro
  obtain ⟨r, hrr⟩ : ∃ r : Nat, f = (r : Int) + 1 := ⟨(f - 1).toNat, by omega⟩
  have rI : (r : Int) < 4 := by omega
  have wf : IntKind.i64.wrap (f - 1) = (r : Int) := by rw [IntWalk.i64_in _ (by omega)]; omega
  have wk : IntKind.i64.wrap ((k : Int) + 1) = (k : Int) + 1 := IntWalk.i64_in _ (by omega)
  have kc : (k : Int) < (cp : Int) := by omega
  have kc1 : (k : Int) + 1 ≤ (cp : Int) := by omega
  have kl1 : (k : Int) + 1 ≤ (l.length : Int) := by omega
  have HT := Aside0.mk (rows_take hr k (by omega))
  have HD0 := rows_drop hr (k + 1) cp (by omega) hc
  have hcn : ¬ cp = k + 1 := by omega
  have kcn : (k : Int) + 1 < (cp : Int) := by omega
  rw [if_neg hcn] at HD0
  have HD := Aside0.mk HD0
  have HL4 := Aside0.mk (show l.length ≤ 4 from updOk_few l (by rw [storeOk, Bool.and_eq_true] at hok; exact hok.1))
  have HF := Aside0.mk (show (laAt l k).f0 = (r : Int) + 1 by rw [← hf]; exact hrr)
  obtain ⟨x, hx⟩ : ∃ x, x = bothTo (tellAt l l.length) 16 := ⟨_, rfl⟩
  obtain ⟨x', hx'⟩ : ∃ x, x = bothTo (tellAt (lessOf l k) (lessOf l k).length) 16 := ⟨_, rfl⟩
  have HL := Aside0.mk (show x.length = 16 by rw [hx]; exact bothTo_length _ _)
  have HL' := Aside0.mk (show x'.length = 16 by rw [hx']; exact bothTo_length _ _)
  have HGR1 := Aside0.mk (show graphOf l = (x, 0) by unfold graphOf; rw [hok, hx]; rfl)
  have HGR2 := Aside0.mk (show graphOf (lessOf l k) = (x', 0) by unfold graphOf; rw [storeOk_less l hok k hkl, hx']; rfl)
  have HLS := Aside0.mk (show ∀ a b : Nat, a < 4 → b < 4 → gt x' (a * 4 + b) = if a = r ∨ b = r then 0 else gt x (a * 4 + b) by rw [hx, hx']; exact fun a b ha hb => both_less l hok k hkl r HF.out a b ha hb)
  obtain ⟨lk, hlk⟩ : ∃ lk, lk = lessOf l k := ⟨_, rfl⟩
  rw [← hlk] at HGR2
  have HLK := Aside0.mk hlk
  clear hlk
  have HOK := Aside0.mk hok
  have HR := Aside0.mk hr
  have HC := Aside0.mk hc
  have HQ0 := Aside0.mk q0
  clear hr hc hok hro hf hrr q0 q1 q2 q3 hl3 hC3 HD0 hx hx' hA
  have HB := Aside0.mk (Below.refl w.heap.size w)
  go_enter Try.func12, Try.ntmps12
  go_wp2_with (first | (go_at_call 25; refine (awake20_calls _).mono ?_; rintro e w1 ⟨rfl, hb1⟩; replace HB := Aside0.mk (below_step HB.out hb1); clear hb1) | (go_at_call 26; refine (ref_StoreMay_calls l (some ad) _ _ (Kd.C_below HR.out HB.out) HC.out).mono ?_; rintro e w1 ⟨rfl, hb1⟩; rw [HOK.out]; replace HB := Aside0.mk (below_step HB.out hb1); clear hb1; have q0 := (HB.out.cell (World.block_lt_of_cell? w _ HQ0.out)).trans HQ0.out) | ((with_reducible refine gate_builtin (b := .append) (xs := #[.tmp 38, .tmp 41]) rfl ?_); at_builtin; refine Kd.R_append_rows (kC w) (w0 := w) w.heap.size rfl (.tmp 38) (.tmp 41) 48 57 (.agg #[.int .i64 0, .int .i64 0, .int .i64 0, .slice none 0 0]) 48 rfl Try.underlying48 info57x rfl (show (0 : Nat) < 4 by decide) (show (0 : Nat) < 48 by decide) (.slice (some ⟨w1.heap.size, 0, none⟩) 0 0) [] (l.take k) _ _ _ (fun _ => True) (fun _ => False) rfl rfl ?aO ?aR (fun _ _ h => h) (fun _ h => h.elim) (fun _ _ => trivial) ?aB ?aS ?aL ?_; (case aO => exact ⟨fun k hk => trivial, [], ⟨rfl, .inr ⟨_, 0, #[], rfl, HB.out.size, blk_new _ _, Nat.le_refl _, Nat.zero_le _, rfl, rfl⟩⟩, Reps.none _ _⟩); (case aR => exact ReadsRow.imp_ HT.out (below_alloc HB.out _) (fun _ _ h => h)); (case aB => exact below_alloc HB.out _); (case aS => exact (below_alloc HB.out _).size); (case aL => have := HL4.out; simp; omega); intro v1 w2 ho1 hb1 hg1 hat1; have HO := Aside0.mk (show Kd.R (kC w) 57 w2 w.heap.size (fun _ => True) v1 (l.take k) from ho1); replace HB := Aside0.mk hb1; clear ho1 hb1 hg1 hat1 q0) | ((with_reducible refine gate_builtin (b := .append) (xs := #[.tmp 43, .tmp 47]) rfl ?_); at_builtin; refine Kd.R_append_rows (kC w) (w0 := w) w.heap.size rfl (.tmp 43) (.tmp 47) 48 57 (.agg #[.int .i64 0, .int .i64 0, .int .i64 0, .slice none 0 0]) 48 rfl Try.underlying48 info57x rfl (show (0 : Nat) < 4 by decide) (show (0 : Nat) < 48 by decide) v1 (l.take k) (l.drop (k + 1)) _ _ _ (fun _ => True) (fun _ => False) rfl rfl ?aO ?aR (fun _ _ h => h) (fun _ h => h.elim) (fun _ _ => trivial) ?aB ?aS ?aL ?_; (case aO => exact HO.out); (case aR => exact ReadsRow.imp_ HD.out HB.out (fun _ _ h => h)); (case aB => exact HB.out); (case aS => exact HB.out.size); (case aL => have := HL4.out; rw [List.length_take]; omega); intro v2 w3 ho1 hb1 hg1 hat1; obtain ⟨A2, c2, hv2, hc2, hC2⟩ := Kd.R_reads ho1; rw [show l.take k ++ l.drop (k + 1) = lk from HLK.out.symm] at hv2 hc2 hC2; subst hv2; have HC2 := Aside0.mk (show Kd.C k57 w3 A2 lk.length lk from ReadsRow.imp_ hC2 (Below.refl _ _) (fun _ _ h => k57.K_below hb1 h)); have HLC2 := Aside0.mk hc2; replace HB := Aside0.mk hb1; have HBS := Aside0.mk (Below.refl w3.heap.size w3); clear ho1 hb1 hg1 hat1 HO hc2 hC2 HT HD) | (go_at_call 21; (with_reducible change Calls Try.prog _ #[Value.slice (some ad) l.length _] _ _); refine (Of_calls l (some ad) _ _ (Kd.C_below HR.out HB.out) HC.out).mono ?_; rintro e w1 ⟨rfl, hb1⟩; rw [HGR1.out]; replace HBS := Aside0.mk (below_step HBS.out hb1); replace HB := Aside0.mk (below_step HB.out hb1); clear hb1) | (go_at_call 21; (with_reducible change Calls Try.prog _ #[Value.slice A2 lk.length _] _ _); refine (Of_calls lk _ _ _ (Kd.C_below HC2.out HBS.out) HLC2.out).mono ?_; rintro e w1 ⟨rfl, hb1⟩; rw [HGR2.out]; replace HBS := Aside0.mk (below_step HBS.out hb1); replace HXg8 := Aside0.mk (HXg8.out.below hb1); replace HB := Aside0.mk (below_step HB.out hb1); clear hb1) | ((with_reducible refine gate_dst (N := 8) rfl ?_); refine box_event ?hg (N := 8) ?hd (cs := AV zs16) (t := 23) ?hr ?_; (case hd => rfl); (case hg => rfl); (case hr => first | (go_simp; done) | (go_simp; rfl)); intro g8 hg w1 hbox hb1; have HXg8 := Aside0.mk (show Blk w1 g8 23 zs16 from hbox); have HGg8 := Aside0.mk (show w.heap.size ≤ g8 by rw [hg]; exact HB.out.size); have HGS := Aside0.mk (show w3.heap.size ≤ g8 by rw [hg]; exact HBS.out.size); replace HBS := Aside0.mk (below_step HBS.out hb1); replace HB := Aside0.mk (below_step HB.out hb1); clear hbox hb1 hg) | ((with_reducible refine gate_dst (N := 10) rfl ?_); refine box_event ?hg (N := 10) ?hd (cs := AV zs16) (t := 23) ?hr ?_; (case hd => rfl); (case hg => rfl); (case hr => first | (go_simp; done) | (go_simp; rfl)); intro g10 hg w1 hbox hb1; have HXg10 := Aside0.mk (show Blk w1 g10 23 zs16 from hbox); have HGg10 := Aside0.mk (show w.heap.size ≤ g10 by rw [hg]; exact HB.out.size); have HN := Aside0.mk (show g8 ≠ g10 by rw [hg]; exact Nat.ne_of_lt HXg8.out.lt); replace HXg8 := Aside0.mk (HXg8.out.below hb1); replace HB := Aside0.mk (below_step HB.out hb1); clear hbox hb1 hg) | ((with_reducible refine gate_store (p := 8) rfl ?_); refine wpL_store rfl rfl rfl (c := x) rfl HXg8.out (by rw [HL.out]; exact size23) (by rw [HL.out]; rfl) ?_; intro w4 hX2 hP2; replace HXg8 := Aside0.mk hX2; replace HBS := Aside0.mk (hP2.below _ _ HBS.out HGS.out); replace HB := Aside0.mk (hP2.below _ _ HB.out HGg8.out); clear hX2 hP2) | ((with_reducible refine gate_store (p := 10) rfl ?_); refine wpL_store rfl rfl rfl (c := x') rfl HXg10.out (by rw [HL'.out]; exact size23) (by rw [HL'.out]; rfl) ?_; intro w4 hX2 hP2; replace HXg10 := Aside0.mk hX2; replace HXg8 := Aside0.mk (HXg8.out.put hP2 HN.out); replace HB := Aside0.mk (hP2.below _ _ HB.out HGg10.out); clear hX2 hP2) | (go_at_call 16; go_in))
  go_loopw [12] (fun i wr => ∃ a : Nat, a ≤ 4 ∧ i = .int .i64 (a : Int) ∧ Aside0 (Blk wr g8 23 x) ∧ Aside0 (Blk wr g10 23 x') ∧ Aside0 (Below w.heap.size w wr)) (fun i _ => 4 - (intOf i).toNat)
  case atStart => exact ⟨0, by omega, rfl, HXg8, HXg10, HB⟩
  case round =>
    clear HB HXg8 HXg10 HBS
    obtain ⟨a, ha, rfl, HXg8, HXg10, HB⟩ := hrel
    by_cases ha4 : a < 4
    · have aI : (a : Int) < 4 := by omega
      go_wp2_with (fail)
      go_loopw [13] (fun i wr => ∃ b : Nat, b ≤ 4 ∧ i = .int .i64 (b : Int) ∧ Aside0 (Blk wr g8 23 x) ∧ Aside0 (Blk wr g10 23 x') ∧ Aside0 (Below w.heap.size w wr)) (fun i _ => 4 - (intOf i).toNat)
      case atStart => exact ⟨0, by omega, rfl, HXg8, HXg10, HB⟩
      case round =>
        clear HB HXg8 HXg10
        obtain ⟨b, hb, rfl, HXg8, HXg10, HB⟩ := hrel
        by_cases hb4 : b < 4
        · have bI : (b : Int) < 4 := by omega
          have hls := HLS.out a b ha4 hb4
          have cy := HXg8.out.cell (a * 4 + b) (by rw [HL.out]; omega)
          have cz := HXg10.out.cell (a * 4 + b) (by rw [HL'.out]; omega)
          generalize gt x (a * 4 + b) = y at cy hls
          generalize gt x' (a * 4 + b) = z at cz hls
          by_cases e1 : a = r
          · have u1 : ((a : Int) == (r : Int)) = true := by simp [e1]
            rw [if_pos (.inl e1)] at hls
            subst hls
            clear e1
            go_wp2_with (fail)
            go_roundw
            case rel => exact ⟨b + 1, by omega, by go_num, HXg8, HXg10, HB⟩
            case measure => simp [intOf]; omega
          · have u1 : ((a : Int) == (r : Int)) = false := by simp; omega
            by_cases e2 : b = r
            · have u2 : ((b : Int) == (r : Int)) = true := by simp [e2]
              rw [if_pos (.inr e2)] at hls
              subst hls
              clear e1 e2
              go_wp2_with (fail)
              go_roundw
              case rel => exact ⟨b + 1, by omega, by go_num, HXg8, HXg10, HB⟩
              case measure => simp [intOf]; omega
            · have u2 : ((b : Int) == (r : Int)) = false := by simp; omega
              rw [if_neg (by omega)] at hls
              subst hls
              clear e1 e2
              go_wp2_with (fail)
              go_roundw
              case rel => exact ⟨b + 1, by omega, by go_num, HXg8, HXg10, HB⟩
              case measure => simp [intOf]; omega
        · have bI : ¬ (b : Int) < 4 := by omega
          go_wp2_with (fail)
          go_roundw
          case rel => exact ⟨a + 1, by omega, by go_num, HXg8, HXg10, HB⟩
          case measure => simp [intOf]; omega
    · have aI : ¬ (a : Int) < 4 := by omega
      go_wp2_with (fail)
      go_ret
      exact ⟨rfl, HB.out⟩
theorem GraphLess_walk (l : List La) (A : Option Addr) (cp : Nat) (at0 : Int) (w : World) (hr : Kd.C k57 w A l.length l) (hc : l.length ≤ cp) :
    Calls Try.prog 12 #[.slice A l.length cp, .int .i64 at0] w fun e w' => e = .returned (.bool true) ∧ Below w.heap.size w w' := by
  cases h : storeOk l with
  | false => exact Less_bad l A cp at0 w hr hc h
  | true =>
    by_cases h0 : l.length = 0
    · exact Less_none l A cp at0 w hr hc h h0
    · obtain ⟨k, hk, hkl⟩ := at_k at0 l.length (by omega) hr.2.1
      obtain ⟨ad, A3, c3, hA, _⟩ := la_cells hr (Below.refl w.heap.size w) k hkl
      subst hA
      by_cases hcp : cp = k + 1
      · exact Less_full l ad cp at0 w hr hc h (by omega) k hk hkl hcp
      · exact Less_part l ad cp at0 w hr hc h (by omega) k hk hkl (by omega)
end Go.Proofs.Ytjficnndocjodaa.H
