/- Outcomes: the law of copies, walked. -/
import Derived.Test.YtaehkmmlacpleaaM6
import Derived.Test.YtaehkmmlacpleaaM4
import Derived.Test.YtaehkmmlacpleaaM5
set_option maxRecDepth 100000
set_option maxHeartbeats 4000000
set_option linter.unusedVariables false
set_option linter.unusedSimpArgs false
namespace Go.Proofs.Ytaehkmmlacpleaa
theorem seatsV_form (el : List Int) (n : Int) : ∃ s l c e, seatsV el n = .tup [tl mrow s l c, .int .i64 e] ∧ (s = 1 ∨ l = []) ∧ l.length < 4611686018427387904 := by
  unfold seatsV
  cases h : seatsL el n with
  | none => exact ⟨0, [], some 0, 2, rfl, .inr rfl, by decide⟩
  | some r =>
    refine ⟨1, r, _, 0, rfl, .inl rfl, ?_⟩
    unfold seatsL at h
    split at h
    · cases h
    · have h1 := seatsGo_len n h
      rw [List.length_replicate] at h1
      omega
theorem closed_occs (o : Oc) : V.closeds (occs o) = true := by simp [occs, closed_nlv, V.closeds]
theorem ren_snd (o : Oc) (p : List Int) : (renLR o p).2 = (renL o p).2 := by unfold renLR renL; split <;> rfl
theorem ren_er (p : List Int) (o : Oc) : erOc (renO p o) = erOc (renOR p o) := by
  unfold erOc renO renOR
  simp only [nz_l, Prod.mk.injEq]
  refine ⟨l_map rfl, ?_, ?_⟩
  · rw [l_map (f := List.map (renRd p)) rfl, List.map_map, List.map_map]
    refine List.map_congr_left fun d _ => ?_
    simp only [Function.comp, erRd, renRd, renRdR, nz_l, l_map (f := List.map (imL p)) rfl]
  · rw [l_map (f := List.map (renTi p)) rfl, List.map_map, List.map_map]
    refine List.map_congr_left fun t _ => ?_
    simp only [Function.comp, erTi, renTi, renTiR, nz_l, l_map (f := fun l => risingL (l.map (imL p))) rfl]
theorem ren_same (o : Oc) (p : List Int) : sameO (renL o p).1 (renLR o p).1 = true := by
  unfold renLR renL
  split
  · exact sameO_iff.2 (ren_er p o)
  · exact sameO_refl _
theorem okO_zero : okO zeroO := by simp [okO, zeroO, okI, Nl.l]
theorem had_ok {p : List Int} (hp : p.length ≤ 10) {l : List Rt} (h : ∀ r ∈ l, okRt r) : (hadP p l).length * 56 ≤ 140737488351232 ∧ ∀ r ∈ hadP p l, okRt r := by
  refine ⟨by rw [had_len]; omega, fun r hr => ?_⟩
  unfold hadP at hr
  obtain ⟨c, _, rfl⟩ := List.mem_map.1 hr
  rw [List.getD_eq_getElem?_getD]
  cases hx : l[(placeL p (c : Int)).toNat]? with
  | none => exact ⟨by simp [okU, Nl.l, default], by simp [okU, Nl.l, default]⟩
  | some x => exact h x (List.mem_of_getElem? hx)
theorem rising_len {l : List Int} (h : ∀ x ∈ l, 0 ≤ x ∧ x < 10) : (risingL l).length = l.length := (rising_perm h).1.length_eq
theorem im_10 {p l : List Int} (ht : turnedL p = true) (h : ∀ x ∈ l, 0 ≤ x ∧ x < p.length) : ∀ x ∈ l.map (imL p), 0 ≤ x ∧ x < 10 := fun x hx => by
  obtain ⟨u, hu, rfl⟩ := List.mem_map.1 hx
  have h1 := h u hu
  obtain ⟨n, rfl⟩ : ∃ n : Nat, u = n := ⟨u.toNat, by omega⟩
  obtain ⟨v, hv, mv⟩ := get_of (show n < p.length by omega)
  have h2 := turned_range ht mv
  have h3 := turned_len ht
  simp only [imL, Int.toNat_natCast, hv, Option.getD_some]
  omega
theorem fits_of {o : Oc} {n : Int} (hf : fitsO o n = true) : (∀ d ∈ o.rounds.l, ofRd d n = true) ∧ ∀ t ∈ o.ties.l, ofTi t n = true := by
  unfold fitsO at hf
  rw [Bool.and_eq_true, Bool.and_eq_true, List.all_eq_true, List.all_eq_true] at hf
  exact ⟨hf.1.2, hf.2⟩
theorem okO_ren {o : Oc} (ho : okO o) (p : List Int) : okO (renL o p).1 := by
  unfold renL
  split
  · rename_i h
    obtain ⟨ht, hf⟩ := h
    have hlen := turned_len ht
    obtain ⟨f2, f3⟩ := fits_of hf
    obtain ⟨b1, ⟨b2, b2'⟩, b3, b3'⟩ := ho
    unfold okI at b1
    refine ⟨?_, ⟨?_, ?_⟩, ?_, ?_⟩
    · simp only [okI, renO, l_map (f := List.map (imL p)) rfl, List.length_map]; exact b1
    · simp only [renO, l_map (f := List.map (renRd p)) rfl, List.length_map]; exact b2
    · simp only [renO, l_map (f := List.map (renRd p)) rfl]
      intro d hd
      obtain ⟨x, hx, rfl⟩ := List.mem_map.1 hd
      have kx := b2' x hx
      have hh := had_ok (p := p) (by omega) kx.2.1
      refine ⟨hh.1, hh.2, kx.2.2.1, ?_, ?_⟩
      · have := kx.2.2.2.1; unfold okI at *; simp only [renRd, l_map (f := List.map (imL p)) rfl, List.length_map]; exact this
      · have := kx.2.2.2.2; unfold okI at *; simp only [renRd, l_map (f := List.map (imL p)) rfl, List.length_map]; exact this
    · simp only [renO, l_map (f := List.map (renTi p)) rfl, List.length_map]; exact b3
    · simp only [renO, l_map (f := List.map (renTi p)) rfl]
      intro t hm
      obtain ⟨x, hx, rfl⟩ := List.mem_map.1 hm
      have kx := b3' x hx
      have fx := f3 x hx
      unfold ofTi at fx
      rw [Bool.and_eq_true] at fx
      unfold okTi okI at *
      simp only [renTi, l_map (f := fun l => risingL (l.map (imL p))) rfl]
      rw [rising_len (im_10 ht (ofL_iff.1 fx.1)), List.length_map]
      exact kx
  · exact okO_zero
theorem okO_renR {o : Oc} (ho : okO o) (p : List Int) : okO (renLR o p).1 := by
  have h := okO_ren ho p
  unfold renLR
  unfold renL at h
  split
  · rename_i hc
    rw [if_pos hc] at h
    obtain ⟨ht, hf⟩ := hc
    obtain ⟨b1, ⟨b2, b2'⟩, b3, b3'⟩ := h
    simp only [renO, okI, l_map (f := List.map (imL p)) rfl, l_map (f := List.map (renRd p)) rfl, l_map (f := List.map (renTi p)) rfl, List.length_map] at b1 b2 b2' b3 b3'
    refine ⟨?_, ⟨?_, ?_⟩, ?_, ?_⟩
    · simp only [okI, renOR, nz_l, List.length_map]; exact b1
    · simp only [renOR, nz_l, List.length_map]; exact b2
    · simp only [renOR, nz_l]
      intro d hd
      obtain ⟨x, hx, rfl⟩ := List.mem_map.1 hd
      have kx := b2' _ (List.mem_map.2 ⟨x, hx, rfl⟩)
      refine ⟨kx.1, kx.2.1, kx.2.2.1, ?_, ?_⟩
      · have := kx.2.2.2.1; unfold okI at *; simp only [renRd, l_map (f := List.map (imL p)) rfl, List.length_map] at this; simp only [renRdR, nz_l, List.length_map]; exact this
      · have := kx.2.2.2.2; unfold okI at *; simp only [renRd, l_map (f := List.map (imL p)) rfl, List.length_map] at this; simp only [renRdR, nz_l, List.length_map]; exact this
    · simp only [renOR, nz_l, List.length_map]; exact b3
    · simp only [renOR, nz_l]
      intro t hm
      obtain ⟨x, hx, rfl⟩ := List.mem_map.1 hm
      have kx := b3' _ (List.mem_map.2 ⟨x, hx, rfl⟩)
      unfold okTi okI at *
      simp only [renTi, l_map (f := fun l => risingL (l.map (imL p))) rfl] at kx
      simp only [renTiR, nz_l]
      exact kx
  · exact okO_zero
variable {L : Lib} (hL : L.T = tab.get)
include hL
theorem copies_v (hS : SortOk L) (o q : Oc) (ho : okO o) (hq : okO q) (n : Int) (p : Nl Int) : VFn L 3 [ocv o, ocv q, .int .i64 n, nlv mrow 1 p] (.bool true) := by
  have kg := great_v hL o ho
  have kg2 := great_v hL q hq
  refine VFn.start (F := T3.1) (by rw [hL]; rfl) rfl (by simp [V.closeds, closed_ocv, closed_nlv, V.closed]) rfl ?_
  by_cases g1 : greatO o = true
  · (repeat' (first | refine wSeq rfl ?_ | refine wBlock rfl ?_ | refine wSkip rfl ?_ | refine wExit rfl ?_ | refine wRet rfl ?_ | refine wCondT rfl rfl ?_ | refine wCondF rfl rfl ?_ | refine wOps rfl ?_ | refine wDraw rfl rfl ?_ | refine opsV_call rfl rfl (kg) ?_ | refine opsV_call rfl rfl (kg2) ?_ | simp only [seval, push_cast, ↓reduceIte, ↓bP_some, ↓aP_true, reduceCtorEq, ocv, occs, g1]))
    exact FnQ.ret rfl rfl
  by_cases g2 : greatO q = true
  · (repeat' (first | refine wSeq rfl ?_ | refine wBlock rfl ?_ | refine wSkip rfl ?_ | refine wExit rfl ?_ | refine wRet rfl ?_ | refine wCondT rfl rfl ?_ | refine wCondF rfl rfl ?_ | refine wOps rfl ?_ | refine wDraw rfl rfl ?_ | refine opsV_call rfl rfl (kg) ?_ | refine opsV_call rfl rfl (kg2) ?_ | simp only [seval, push_cast, ↓reduceIte, ↓bP_some, ↓aP_true, reduceCtorEq, ocv, occs, g1, g2]))
    exact FnQ.ret rfl rfl
  by_cases h60 : (60 : Int) < p.l.length
  · (repeat' (first | refine wSeq rfl ?_ | refine wBlock rfl ?_ | refine wSkip rfl ?_ | refine wExit rfl ?_ | refine wRet rfl ?_ | refine wCondT rfl rfl ?_ | refine wCondF rfl rfl ?_ | refine wOps rfl ?_ | refine wDraw rfl rfl ?_ | refine opsV_call rfl rfl (kg) ?_ | refine opsV_call rfl rfl (kg2) ?_ | simp only [seval, push_cast, ↓reduceIte, ↓bP_some, ↓aP_true, reduceCtorEq, ocv, occs, g1, g2, h60]))
    exact FnQ.ret rfl rfl
  have k1 := twin_v hL o ho
  have k2 := seats_v hL o ho n
  have k3 := rseats_v hL o ho n
  have k4 := fun H => rename_up hL hS o ho p (by omega) H
  have j1 := r11same_v hL o o ho ho
  rw [sameO_refl] at j1
  have j2 := r11same_v hL _ _ (okO_ren ho p.l) (okO_renR ho p.l)
  rw [ren_same] at j2
  have j3 := r11same_v hL o q ho hq
  have j4 := same_v hL o q ho hq
  generalize sameO o q = bq at j3 j4
  have j5 := same_v hL o o ho ho
  rw [sameO_refl] at j5
  have k5 := rrenameO_v hL o p ho (by unfold okI; omega)
  obtain ⟨ss, sl, sc, se, hse, hs1, hs2⟩ := seatsV_form o.el.l n
  rw [hse] at k2 k3
  have ks := rints_v hL ss ss sl sl sc sc hs1 hs1 hs2 hs2
  rw [show decide (sl = sl) = true by simp] at ks
  rw [ren_snd] at k5
  generalize (renL o p.l).2 = re at *
  have okx := okO_ren ho p.l
  generalize hxo : (renL o p.l).1 = xo at *
  generalize hyo : (renLR o p.l).1 = yo at *
  (repeat' (first | refine wSeq rfl ?_ | refine wBlock rfl ?_ | refine wSkip rfl ?_ | refine wExit rfl ?_ | refine wRet rfl ?_ | refine wCondT rfl rfl ?_ | refine wCondF rfl rfl ?_ | refine wOpsP rfl ?_ | refine wDraw rfl rfl ?_ | simp only [seval, push_cast, ↓reduceIte, ↓bP_some, ↓aP_true, reduceCtorEq, ocv, occs, g1, g2, h60]))
  refine opsP_all rfl (kg.at _) ?_
  rintro r h' ⟨rfl, rfl⟩
  (repeat' (first | refine wSeq rfl ?_ | refine wBlock rfl ?_ | refine wSkip rfl ?_ | refine wExit rfl ?_ | refine wRet rfl ?_ | refine wCondT rfl rfl ?_ | refine wCondF rfl rfl ?_ | refine wOpsP rfl ?_ | refine wDraw rfl rfl ?_ | simp only [seval, push_cast, ↓reduceIte, ↓bP_some, ↓aP_true, reduceCtorEq, g1]))
  refine opsP_all rfl (kg2.at _) ?_
  rintro r h' ⟨rfl, rfl⟩
  (repeat' (first | refine wSeq rfl ?_ | refine wBlock rfl ?_ | refine wSkip rfl ?_ | refine wExit rfl ?_ | refine wRet rfl ?_ | refine wCondT rfl rfl ?_ | refine wCondF rfl rfl ?_ | refine wOpsP rfl ?_ | refine wDraw rfl rfl ?_ | simp only [seval, push_cast, ↓reduceIte, ↓bP_some, ↓aP_true, reduceCtorEq, g1, g2, h60]))
  refine opsP_all rfl (k1.at _) ?_
  rintro r h' ⟨rfl, rfl⟩
  (repeat' (first | refine wSeq rfl ?_ | refine wBlock rfl ?_ | refine wSkip rfl ?_ | refine wExit rfl ?_ | refine wRet rfl ?_ | refine wCondT rfl rfl ?_ | refine wCondF rfl rfl ?_ | refine wOpsP rfl ?_ | refine wDraw rfl rfl ?_ | simp only [seval, push_cast, ↓reduceIte, ↓bP_some, ↓aP_true, reduceCtorEq, ocv, occs]))
  refine opsP_all rfl (k2.at _) ?_
  rintro r h' ⟨rfl, rfl⟩
  (repeat' (first | refine wSeq rfl ?_ | refine wBlock rfl ?_ | refine wSkip rfl ?_ | refine wExit rfl ?_ | refine wRet rfl ?_ | refine wCondT rfl rfl ?_ | refine wCondF rfl rfl ?_ | refine wOpsP rfl ?_ | refine wDraw rfl rfl ?_ | simp only [seval, push_cast, ↓reduceIte, ↓bP_some, ↓aP_true, reduceCtorEq, ocv, occs]))
  refine opsP_all rfl (k3.at _) ?_
  rintro r h' ⟨rfl, rfl⟩
  (repeat' (first | refine wSeq rfl ?_ | refine wBlock rfl ?_ | refine wSkip rfl ?_ | refine wExit rfl ?_ | refine wRet rfl ?_ | refine wCondT rfl rfl ?_ | refine wCondF rfl rfl ?_ | refine wOpsP rfl ?_ | refine wDraw rfl rfl ?_ | simp only [seval, push_cast, ↓reduceIte, ↓bP_some, ↓aP_true, reduceCtorEq, ocv, occs]))
  refine opsP_any rfl (k4 _) ?_
  rintro r G ⟨l1, fr, xv, rfl, ox⟩
  have b0 : G.get 0 = some (.arr 3 [occs o]) := fr 0 (by simp)
  have b1 : G.get 1 = some (.arr 3 [occs q]) := fr 1 (by simp)
  have b2 : G.get 2 = some (.arr 3 [occs o]) := fr 2 (by simp)
  have l3 : 3 ≤ G.length := l1
  obtain ⟨ve, vr, vt, gx, hxv, oe, orr, ot⟩ := id ox
  subst hxv
  (repeat' (first | refine wSeq rfl ?_ | refine wBlock rfl ?_ | refine wSkip rfl ?_ | refine wExit rfl ?_ | refine wRet rfl ?_ | refine wCondT rfl rfl ?_ | refine wCondF rfl rfl ?_ | refine wOpsP rfl ?_ | refine wDraw rfl rfl ?_ | simp only [seval, push_cast, ↓reduceIte, ↓bP_some, ↓aP_true, reduceCtorEq, b0, b1, b2, get_more b0, get_more b1, get_more b2, get_at, set_at, occs, List.length_append, List.length_cons, List.length_nil, Nat.zero_add, Nat.lt_add_one]))
  refine opsP_all rfl (k5.at _) ?_
  rintro r h' ⟨rfl, rfl⟩
  obtain ⟨G1, hG1⟩ : ∃ G1, G1 = G ++ [some (Blk.arr 3 [[ve, vr, vt]])] := ⟨_, rfl⟩
  have lG1 : G1.length = G.length + 1 := by rw [hG1]; simp
  have c0 : G1.get 0 = some (.arr 3 [occs o]) := by rw [hG1]; exact get_more b0 _
  have c1 : G1.get 1 = some (.arr 3 [occs q]) := by rw [hG1]; exact get_more b1 _
  have c2 : G1.get 2 = some (.arr 3 [occs o]) := by rw [hG1]; exact get_more b2 _
  have c3 : G1.get G.length = some (.arr 3 [[ve, vr, vt]]) := by rw [hG1]; exact get_at
  rw [← hG1]
  generalize hcode : T3.val.body.r.r.r.r.r.r.r = cc
  (repeat' (first | refine wSeq rfl ?_ | refine wBlock rfl ?_ | refine wSkip rfl ?_ | refine wExit rfl ?_ | refine wRet rfl ?_ | refine wCondT rfl rfl ?_ | refine wCondF rfl rfl ?_ | refine wOpsP rfl ?_ | refine wDraw rfl rfl ?_ | simp only [seval, push_cast, ↓reduceIte, ↓bP_some, ↓aP_true, reduceCtorEq, ocv, occs, c0, c1, c2, c3, get_at, set_at, List.length_append, List.length_cons, List.length_nil, Nat.zero_add, Nat.lt_add_one]))
  obtain ⟨G2, hG2⟩ : ∃ G2, G2 = G1 ++ [some (Blk.arr 3 [[nlv mrow 1 yo.el, nlv rdrow 6 yo.rounds, nlv tirow 2 yo.ties]])] := ⟨_, rfl⟩
  have lG2 : G2.length = G1.length + 1 := by rw [hG2]; simp
  have d0 : G2.get 0 = some (.arr 3 [occs o]) := by rw [hG2]; exact get_more c0 _
  have d1 : G2.get 1 = some (.arr 3 [occs q]) := by rw [hG2]; exact get_more c1 _
  have d2 : G2.get 2 = some (.arr 3 [occs o]) := by rw [hG2]; exact get_more c2 _
  have d3 : G2.get G.length = some (.arr 3 [[ve, vr, vt]]) := by rw [hG2]; exact get_more c3 _
  have d4 : G2.get G1.length = some (.arr 3 [occs yo]) := by rw [hG2]; exact get_at
  have ox2 : OwnOc G2.get (.agg [ve, vr, vt]) xo (fun b => 3 ≤ b ∧ b < G.length) := ox.loc (fun b hb => ⟨hb, by rw [hG2, hG1, get_app_l (by rw [List.length_append]; have := hb.2; omega), get_app_l hb.2]⟩)
  have fx := ox2.sh (fun b hb => by have := hb.2; omega)
  have e0 := cl_box d0 (fun σ hσ => by rw [← V.rens_map]; exact V.rens_closed _ (closed_occs o))
  have e1 := cl_box d1 (fun σ hσ => by rw [← V.rens_map]; exact V.rens_closed _ (closed_occs q))
  have e2 := cl_box d2 (fun σ hσ => by rw [← V.rens_map]; exact V.rens_closed _ (closed_occs o))
  have ox3 := ox2.cl (fun b hb => by have := hb.2; omega)
  rw [← hG2, ← hcode]
  refine wSeq rfl ?_
  refine wDrawD rfl ?_
  refine dops_ldB rfl rfl rfl d2 rfl rfl ?_
  simp only [seval, push_cast, ↓reduceIte, ↓bP_some, ↓aP_true, reduceCtorEq, happ_eq, upds_nil, upds_cons]
  refine dops_ldB rfl rfl rfl d0 rfl rfl ?_
  simp only [seval, push_cast, ↓reduceIte, ↓bP_some, ↓aP_true, reduceCtorEq, happ_eq, upds_nil, upds_cons]
  refine dops_call rfl rfl rfl j1 rfl ?_
  simp only [seval, push_cast, ↓reduceIte, ↓bP_some, ↓aP_true, reduceCtorEq, happ_eq, upds_nil, upds_cons]
  refine dops_op rfl rfl rfl rfl rfl ?_
  simp only [seval, push_cast, ↓reduceIte, ↓bP_some, ↓aP_true, reduceCtorEq, happ_eq, upds_nil, upds_cons]
  refine dops_op rfl rfl rfl rfl rfl ?_
  simp only [seval, push_cast, ↓reduceIte, ↓bP_some, ↓aP_true, reduceCtorEq, happ_eq, upds_nil, upds_cons]
  refine dops_op rfl rfl rfl rfl rfl ?_
  simp only [seval, push_cast, ↓reduceIte, ↓bP_some, ↓aP_true, reduceCtorEq, happ_eq, upds_nil, upds_cons]
  refine dops_call rfl rfl rfl ks rfl ?_
  simp only [seval, push_cast, ↓reduceIte, ↓bP_some, ↓aP_true, reduceCtorEq, happ_eq, upds_nil, upds_cons]
  refine dops_op rfl rfl rfl rfl rfl ?_
  simp only [seval, push_cast, ↓reduceIte, ↓bP_some, ↓aP_true, reduceCtorEq, happ_eq, upds_nil, upds_cons]
  refine dops_op rfl rfl rfl rfl rfl ?_
  simp only [seval, push_cast, ↓reduceIte, ↓bP_some, ↓aP_true, reduceCtorEq, happ_eq, upds_nil, upds_cons]
  refine dops_op rfl rfl rfl rfl rfl ?_
  simp only [seval, push_cast, ↓reduceIte, ↓bP_some, ↓aP_true, reduceCtorEq, happ_eq, upds_nil, upds_cons]
  refine dops_op rfl rfl rfl rfl rfl ?_
  simp only [seval, push_cast, ↓reduceIte, ↓bP_some, ↓aP_true, reduceCtorEq, happ_eq, upds_nil, upds_cons]
  refine dops_op rfl rfl rfl rfl rfl ?_
  simp only [seval, push_cast, ↓reduceIte, ↓bP_some, ↓aP_true, reduceCtorEq, happ_eq, upds_nil, upds_cons]
  rw [beq_self_eq_true]
  refine dops_op rfl rfl rfl rfl rfl ?_
  simp only [seval, push_cast, ↓reduceIte, ↓bP_some, ↓aP_true, reduceCtorEq, happ_eq, upds_nil, upds_cons]
  refine dops_op rfl rfl rfl rfl rfl ?_
  simp only [seval, push_cast, ↓reduceIte, ↓bP_some, ↓aP_true, reduceCtorEq, happ_eq, upds_nil, upds_cons]
  refine dops_ldB rfl rfl rfl d3 rfl rfl ?_
  simp only [seval, push_cast, ↓reduceIte, ↓bP_some, ↓aP_true, reduceCtorEq, happ_eq, upds_nil, upds_cons]
  refine dops_ldB rfl rfl rfl d4 rfl rfl ?_
  simp only [seval, push_cast, ↓reduceIte, ↓bP_some, ↓aP_true, reduceCtorEq, happ_eq, upds_nil, upds_cons]
  refine dops_deep rfl rfl rfl j2 rfl ?_ ?_ rfl ?_
  · rw [List.map_cons, List.map_cons, List.map_nil, fx.1, V.ren_closed _ (show V.closed (.agg (occs yo)) = true from closed_ocv yo)]
  · exact ⟨⟨5, fx.2.deep⟩, ⟨2, deep_agg3 (deep_same 0) (deep_same 0) (deep_same 0)⟩, trivial⟩
  simp only [seval, push_cast, ↓reduceIte, ↓bP_some, ↓aP_true, reduceCtorEq, happ_eq, upds_nil, upds_cons]
  refine dops_op rfl rfl rfl rfl rfl ?_
  simp only [seval, push_cast, ↓reduceIte, ↓bP_some, ↓aP_true, reduceCtorEq, happ_eq, upds_nil, upds_cons]
  refine dops_op rfl rfl rfl rfl rfl ?_
  simp only [seval, push_cast, ↓reduceIte, ↓bP_some, ↓aP_true, reduceCtorEq, happ_eq, upds_nil, upds_cons]
  refine dops_op rfl rfl rfl rfl rfl ?_
  simp only [seval, push_cast, ↓reduceIte, ↓bP_some, ↓aP_true, reduceCtorEq, happ_eq, upds_nil, upds_cons]
  refine dops_op rfl rfl rfl rfl rfl ?_
  simp only [seval, push_cast, ↓reduceIte, ↓bP_some, ↓aP_true, reduceCtorEq, happ_eq, upds_nil, upds_cons]
  refine dops_op rfl rfl rfl rfl rfl ?_
  simp only [seval, push_cast, ↓reduceIte, ↓bP_some, ↓aP_true, reduceCtorEq, happ_eq, upds_nil, upds_cons]
  rw [beq_self_eq_true]
  refine dops_op rfl rfl rfl rfl rfl ?_
  simp only [seval, push_cast, ↓reduceIte, ↓bP_some, ↓aP_true, reduceCtorEq, happ_eq, upds_nil, upds_cons]
  refine dops_op rfl rfl rfl rfl rfl ?_
  simp only [seval, push_cast, ↓reduceIte, ↓bP_some, ↓aP_true, reduceCtorEq, happ_eq, upds_nil, upds_cons]
  refine dops_ldB rfl rfl rfl e2 rfl rfl ?_
  simp only [seval, push_cast, ↓reduceIte, ↓bP_some, ↓aP_true, reduceCtorEq, happ_eq, upds_nil, upds_cons]
  refine dops_ldB rfl rfl rfl e1 rfl rfl ?_
  simp only [seval, push_cast, ↓reduceIte, ↓bP_some, ↓aP_true, reduceCtorEq, happ_eq, upds_nil, upds_cons]
  refine dops_call rfl rfl rfl j4 rfl ?_
  simp only [seval, push_cast, ↓reduceIte, ↓bP_some, ↓aP_true, reduceCtorEq, happ_eq, upds_nil, upds_cons]
  refine dops_ldB rfl rfl rfl e0 rfl rfl ?_
  simp only [seval, push_cast, ↓reduceIte, ↓bP_some, ↓aP_true, reduceCtorEq, happ_eq, upds_nil, upds_cons]
  refine dops_ldB rfl rfl rfl e1 rfl rfl ?_
  simp only [seval, push_cast, ↓reduceIte, ↓bP_some, ↓aP_true, reduceCtorEq, happ_eq, upds_nil, upds_cons]
  refine dops_call rfl rfl rfl j3 rfl ?_
  simp only [seval, push_cast, ↓reduceIte, ↓bP_some, ↓aP_true, reduceCtorEq, happ_eq, upds_nil, upds_cons]
  refine dops_op (e := { v := .bool true }) rfl rfl (by cases bq <;> rfl) rfl rfl ?_
  simp only [seval, push_cast, ↓reduceIte, ↓bP_some, ↓aP_true, reduceCtorEq, happ_eq, upds_nil, upds_cons]
  refine dops_op rfl rfl rfl rfl rfl ?_
  simp only [seval, push_cast, ↓reduceIte, ↓bP_some, ↓aP_true, reduceCtorEq, happ_eq, upds_nil, upds_cons]
  refine dops_op rfl rfl rfl rfl rfl ?_
  simp only [seval, push_cast, ↓reduceIte, ↓bP_some, ↓aP_true, reduceCtorEq, happ_eq, upds_nil, upds_cons]
  refine dops_ldB rfl rfl rfl e2 rfl rfl ?_
  simp only [seval, push_cast, ↓reduceIte, ↓bP_some, ↓aP_true, reduceCtorEq, happ_eq, upds_nil, upds_cons]
  refine dops_ldB rfl rfl rfl e0 rfl rfl ?_
  simp only [seval, push_cast, ↓reduceIte, ↓bP_some, ↓aP_true, reduceCtorEq, happ_eq, upds_nil, upds_cons]
  refine dops_call rfl rfl rfl j5 rfl ?_
  simp only [seval, push_cast, ↓reduceIte, ↓bP_some, ↓aP_true, reduceCtorEq, happ_eq, upds_nil, upds_cons]
  refine dops_op rfl rfl rfl rfl rfl ?_
  simp only [seval, push_cast, ↓reduceIte, ↓bP_some, ↓aP_true, reduceCtorEq, happ_eq, upds_nil, upds_cons]
  refine dops_op rfl rfl rfl rfl rfl ?_
  simp only [seval, push_cast, ↓reduceIte, ↓bP_some, ↓aP_true, reduceCtorEq, happ_eq, upds_nil, upds_cons]
  refine dops_nil ?_
  have e3 := cl_box d3 (fun σ hσ => by
    have h1 := (ox2.fix (σ := σ) (h' := fun a => (G2.get a).map (Blk.ren σ)) (fun b hb => hσ b (by have := hb.2; omega)) (fun b B hb hB => by rw [hB]; rfl)).1
    rw [ren_agg0] at h1
    injection h1)
  have lG3 : G2.cl.length = G2.length := cl_len G2
  generalize G2.cl = G3 at *
  show SWP L 0 T3.val.ntmps T3.val.body.r.r.r.r.r.r.r.r _ [(4, .ptr 0 3 0 0), (9, .ptr 2 3 0 0), (14, .ptr G.length 3 0 0), (18, .bool true)] G3
  (repeat' (first | refine wSeq rfl ?_ | refine wBlock rfl ?_ | refine wSkip rfl ?_ | refine wExit rfl ?_ | refine wRet rfl ?_ | refine wCondT rfl rfl ?_ | refine wCondF rfl rfl ?_ | refine wOpsP rfl ?_ | refine wDraw rfl rfl ?_ | simp only [seval, push_cast, ↓reduceIte, ↓bP_some, ↓aP_true, reduceCtorEq, e3]))
  refine opsP_any rfl (spoil_a hL xo okx G3 (.agg [ve, vr, vt]) _ ox3 (fun b hb => by have := hb.2; omega)) ?_
  rintro r G4 ⟨rfl, l4, f4⟩
  have h0 : G4.get 0 = some (.arr 3 [occs o]) := by rw [f4 0 (by omega) (fun h => by omega)]; exact e0
  have h2 : G4.get 2 = some (.arr 3 [occs o]) := by rw [f4 2 (by omega) (fun h => by omega)]; exact e2
  (repeat' (first | refine wSeq rfl ?_ | refine wBlock rfl ?_ | refine wSkip rfl ?_ | refine wExit rfl ?_ | refine wRet rfl ?_ | refine wCondT rfl rfl ?_ | refine wCondF rfl rfl ?_ | refine wOpsP rfl ?_ | refine wDraw rfl rfl ?_ | simp only [seval, push_cast, ↓reduceIte, ↓bP_some, ↓aP_true, reduceCtorEq, h0, h2, occs]))
  refine opsP_all rfl (j1.at _) ?_
  rintro r h' ⟨rfl, rfl⟩
  (repeat' (first | refine wSeq rfl ?_ | refine wBlock rfl ?_ | refine wSkip rfl ?_ | refine wExit rfl ?_ | refine wRet rfl ?_ | refine wCondT rfl rfl ?_ | refine wCondF rfl rfl ?_ | refine wOpsP rfl ?_ | refine wDraw rfl rfl ?_ | simp only [seval, push_cast, ↓reduceIte, ↓bP_some, ↓aP_true, reduceCtorEq, h0, h2, occs]))
  refine opsP_any rfl (twin_up hL o ho _) ?_
  rintro r G5 ⟨l5, f5, ot⟩
  have i0 : G5.get 0 = some (.arr 3 [occs o]) := by rw [f5 0 (by omega)]; exact h0
  have i2 : G5.get 2 = some (.arr 3 [occs o]) := by rw [f5 2 (by omega)]; exact h2
  obtain ⟨we, wr, wt, gt, hwv, _⟩ := id ot
  subst hwv
  (repeat' (first | refine wSeq rfl ?_ | refine wBlock rfl ?_ | refine wSkip rfl ?_ | refine wExit rfl ?_ | refine wRet rfl ?_ | refine wCondT rfl rfl ?_ | refine wCondF rfl rfl ?_ | refine wOpsP rfl ?_ | refine wDraw rfl rfl ?_ | simp only [seval, push_cast, ↓reduceIte, ↓bP_some, ↓aP_true, reduceCtorEq, i0, i2, occs, get_at, set_at, List.length_append, List.length_cons, List.length_nil, Nat.zero_add, Nat.lt_add_one]))
  refine opsP_any rfl (spoil_a hL o ho (G5 ++ [some (.arr 3 [[we, wr, wt]])]) (.agg [we, wr, wt]) _ (ot.loc (fun b hb => ⟨hb, get_app_l hb.2⟩)) (fun b hb => by rw [List.length_append]; have := hb.2; omega)) ?_
  rintro r G6 ⟨rfl, l6, f6⟩
  have m0 : G6.get 0 = some (.arr 3 [occs o]) := by rw [f6 0 (by rw [List.length_append]; omega) (fun h => by omega)]; exact get_more i0 _
  have m2 : G6.get 2 = some (.arr 3 [occs o]) := by rw [f6 2 (by rw [List.length_append]; omega) (fun h => by omega)]; exact get_more i2 _
  (repeat' (first | refine wSeq rfl ?_ | refine wBlock rfl ?_ | refine wSkip rfl ?_ | refine wExit rfl ?_ | refine wRet rfl ?_ | refine wCondT rfl rfl ?_ | refine wCondF rfl rfl ?_ | refine wOpsP rfl ?_ | refine wDraw rfl rfl ?_ | simp only [seval, push_cast, ↓reduceIte, ↓bP_some, ↓aP_true, reduceCtorEq, m0, m2, occs]))
  refine opsP_all rfl (j1.at _) ?_
  rintro r h' ⟨rfl, rfl⟩
  (repeat' (first | refine wSeq rfl ?_ | refine wBlock rfl ?_ | refine wSkip rfl ?_ | refine wExit rfl ?_ | refine wRet rfl ?_ | refine wCondT rfl rfl ?_ | refine wCondF rfl rfl ?_ | refine wOps rfl ?_ | refine wDraw rfl rfl ?_ | simp only [seval, push_cast, ↓reduceIte, ↓bP_some, ↓aP_true, reduceCtorEq]))
  exact FnQ.ret rfl rfl
end Go.Proofs.Ytaehkmmlacpleaa
