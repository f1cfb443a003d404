/- A part of what Once needs. -/
import Derived.Test.YtapoehkdnglahabGreatOnceGi
set_option linter.unusedVariables false
set_option linter.unusedSimpArgs false
set_option linter.unusedSectionVars false
namespace Go.Proofs.YtapoehkdnglahabGreat
section
open Go.RowKit
attribute [local irreducible] WS LS OpQ OpT OpH OpTQ Spec SpecQ SpecX DSpec cel AS sTail sHead
variable (w0 : World)
set_option maxRecDepth 100000 in
set_option maxHeartbeats 8000000 in
theorem wdec_1b (t k f z n : UInt8) (l : List UInt8) (hl : l.length ≤ 100000) (hz : z.toNat = 0) (ht : 0 < t.toNat) (hf : f.toNat = 8) (h2 : k.toNat = 1) (v : Value) (X : HProp) [hX : Rdr w0 X v UInt8 1 byteC (t :: k :: f :: z :: n :: l)] : Spec Tryz.prog w0 35 [v] X (fun v' : Value => decV (t :: k :: f :: z :: n :: l) v') (fun v' => decH (t :: k :: f :: z :: n :: l) v' X) := by
  have hde : Pk.dec (t :: k :: f :: z :: n :: l) = if l.length = 20 ∧ numAt l 8 = 0 then some ⟨t.toNat, 1, n.toNat, true, numAt l 0, numAt l 4, numAt l 8, numAt l 12, numAt l 16, 0, [], []⟩ else none := by
    obtain rfl := toNat_eq8 h2 (by decide); obtain rfl := toNat_eq8 hz (by decide); obtain rfl := toNat_eq8 hf (by decide)
    have ht' : t ≠ 0 := fun e => by rw [e] at ht; simp at ht
    simp [Pk.dec, Pk.body, ht']
  refine Spec.enterM Tryz.func35 rfl Tryz.ntmps35 rfl fun G => ?_
  simp only [argE]
  refine WS_formR v (iI : Rdr w0 (X * G) v UInt8 1 byteC (t :: k :: f :: z :: n :: l)) fun A cap hv => ?_
  subst hv
  repeat' (first | (refine WS_seqK ?_; intro K hK) | (refine hK _ ?_; clear hK K) | refine stZ ?_ | (refine s2Z ?_ ?_ <;> intro hc <;> (try simp only [cS] at hc) <;> (try (exfalso; first | contradiction | omega))) | refine sbZ ?_ | ((refine' LQ ?zh rfl ?_); case zh => intro F'; first | exact Q_move rfl | exact Q_assign rfl | exact Q_nilCheck rfl | exact Q_fieldAddr rfl iI rfl | exact Q_load rfl iI iI rfl | exact Q_pick_t rfl iI rfl | exact Q_pick_f rfl iI rfl | exact Q_un rfl iI | exact Q_loadA rfl iI iI rfl | exact Q_build iI iI rfl rfl | exact Q_lenR rfl iI iI | exact Q_makeFunc rfl rfl) | ((first | refine LS_binS rfl rfl iI rfl ?_ ?_ | refine LS_binN rfl rfl iI rfl ?_ ?_ | refine DL_binS rfl rfl iI rfl ?_ ?_) <;> intro hc) | (refine shZ ?_; intro g) | (refine s0Z ?_; intro g) | refine LS_deferV0 rfl rfl rfl ?_ | (refine LS_one_t rfl iI iI rfl ?_) | (refine LS_four rfl iI iI rfl ?_ ?_ <;> (intro hc; try simp only [List.length_drop] at hc)) | (refine LS_must rfl rfl ?_ ?_ <;> (intro hc; first | (cases hc; done) | skip)) | with_reducible refine thenS_p ?_ | with_reducible refine blockS_p ?_)
  all_goals
    first
    | (have hd : Pk.dec (t :: k :: f :: z :: n :: l) = none := by
        rw [hde, if_neg]
        first | ((try simp only [List.length_drop] at *); omega) | (intro hcon; simp_all [numAt_dropK]; done)
       refine out_brk rfl rfl iI iI rfl rfl ?_
       simp only [decV, decH, hd]
       exact ⟨.slice none 0 0, rfl, finE⟩)
    | (have hd := hde.trans (if_pos (by first | ((try simp only [List.length_drop] at *); omega) | (refine ⟨by (try simp only [List.length_drop] at *); omega, ?_⟩; simp_all [numAt_dropK]; done)))
       refine out_ok rfl rfl iI iI rfl ?_
       simp only [decV, decH, hd, Option.getD_some, Option.isSome_some]
       exact ⟨.slice none 0 0, by simp [Pk.val, Pk.cells, numAt_dropK, h2, *], finE⟩)
set_option maxRecDepth 100000 in
set_option maxHeartbeats 8000000 in
theorem wdec_9 (t k f z n : UInt8) (l : List UInt8) (hl : l.length ≤ 100000) (hz : z.toNat = 0) (ht : 0 < t.toNat) (hf : f.toNat = 0) (h2 : k.toNat = 9) (v : Value) (X : HProp) [hX : Rdr w0 X v UInt8 1 byteC (t :: k :: f :: z :: n :: l)] : Spec Tryz.prog w0 35 [v] X (fun v' : Value => decV (t :: k :: f :: z :: n :: l) v') (fun v' => decH (t :: k :: f :: z :: n :: l) v' X) := by
  have hde : Pk.dec (t :: k :: f :: z :: n :: l) = if n.toNat ≤ 16 ∧ l.length = 12 + n.toNat then some ⟨t.toNat, 9, 0, false, numAt l 0, numAt l 4, 0, numAt l 8, 0, 0, [], l.drop 12⟩ else none := by
    obtain rfl := toNat_eq8 h2 (by decide); obtain rfl := toNat_eq8 hz (by decide); obtain rfl := toNat_eq8 hf (by decide)
    have ht' : t ≠ 0 := fun e => by rw [e] at ht; simp at ht
    simp [Pk.dec, Pk.body, ht']
  refine Spec.enterM Tryz.func35 rfl Tryz.ntmps35 rfl fun G => ?_
  simp only [argE]
  refine WS_formR v (iI : Rdr w0 (X * G) v UInt8 1 byteC (t :: k :: f :: z :: n :: l)) fun A cap hv => ?_
  subst hv
  repeat' (first | (refine WS_seqK ?_; intro K hK) | (refine hK _ ?_; clear hK K) | refine stZ ?_ | (refine s2Z ?_ ?_ <;> intro hc <;> (try simp only [cS] at hc) <;> (try (exfalso; first | contradiction | omega))) | refine sbZ ?_ | ((refine' LQ ?zh rfl ?_); case zh => intro F'; first | exact Q_move rfl | exact Q_assign rfl | exact Q_nilCheck rfl | exact Q_fieldAddr rfl iI rfl | exact Q_load rfl iI iI rfl | exact Q_pick_t rfl iI rfl | exact Q_loadA rfl iI iI rfl | exact Q_build iI iI rfl rfl | exact Q_lenR rfl iI iI | exact Q_convS rfl iI rfl iI iI iI | exact Q_makeFunc rfl rfl) | ((first | refine LS_binS rfl rfl iI rfl ?_ ?_ | refine LS_binN rfl rfl iI rfl ?_ ?_ | refine DL_binS rfl rfl iI rfl ?_ ?_) <;> intro hc) | (refine shZ ?_; intro g) | (refine s0Z ?_; intro g) | refine LS_deferV0 rfl rfl rfl ?_ | (refine LS_one_t rfl iI iI rfl ?_) | (refine LS_four rfl iI iI rfl ?_ ?_ <;> (intro hc; try simp only [List.length_drop] at hc)) | (refine LS_take rfl iI iI iI rfl ?_ ?_ <;> (intro hc; try simp only [List.length_drop] at hc)) | (refine LS_must rfl rfl ?_ ?_ <;> (intro hc; first | (cases hc; done) | skip)) | with_reducible refine thenS_p ?_ | with_reducible refine blockS_p ?_)
  all_goals
    first
    | (have hd : Pk.dec (t :: k :: f :: z :: n :: l) = none := by
        rw [hde, if_neg]
        first | ((try simp only [List.length_drop] at *); omega) | (intro hcon; simp_all [numAt_dropK]; done)
       refine out_brk rfl rfl iI iI rfl rfl ?_
       simp only [decV, decH, hd]
       exact ⟨.slice none 0 0, rfl, finE⟩)
    | (have hd := hde.trans (if_pos (by first | ((try simp only [List.length_drop] at *); omega) | (refine ⟨by (try simp only [List.length_drop] at *); omega, ?_⟩; simp_all [numAt_dropK]; done)))
       have e12 : (l.drop 12).take n.toNat = l.drop 12 := List.take_of_length_le (by (try simp only [List.length_drop] at *); omega)
       refine out_ok rfl rfl iI iI rfl ?_
       simp only [decV, decH, hd, Option.getD_some, Option.isSome_some]
       exact ⟨.slice none 0 0, by simp [Pk.val, Pk.cells, numAt_dropK, h2, *], finE⟩)
end

section
open Go.RowKit
attribute [local irreducible] WS LS OpQ OpT OpH OpTQ Spec SpecQ SpecX DSpec cel AS sTail sHead
variable (w0 : World)
set_option maxRecDepth 100000 in
set_option maxHeartbeats 8000000 in
theorem wdec_3 (t k f z n : UInt8) (l : List UInt8) (hl : l.length ≤ 100000) (hz : z.toNat = 0) (ht : 0 < t.toNat) (hf : f.toNat = 0) (h2 : k.toNat = 3) (v : Value) (X : HProp) [hX : Rdr w0 X v UInt8 1 byteC (t :: k :: f :: z :: n :: l)] : Spec Tryz.prog w0 35 [v] X (fun v' : Value => decV (t :: k :: f :: z :: n :: l) v') (fun v' => decH (t :: k :: f :: z :: n :: l) v' X) := by
  have hde : Pk.dec (t :: k :: f :: z :: n :: l) = if 1 ≤ n.toNat ∧ n.toNat ≤ 8 ∧ l.length = 8 * n.toNat then some ⟨t.toNat, 3, 0, false, 0, 0, 0, 0, 0, 0, lostsAt l n.toNat, []⟩ else none := by
    obtain rfl := toNat_eq8 h2 (by decide); obtain rfl := toNat_eq8 hz (by decide); obtain rfl := toNat_eq8 hf (by decide)
    have ht' : t ≠ 0 := fun e => by rw [e] at ht; simp at ht
    simp [Pk.dec, Pk.body, ht']
  refine Spec.enterM Tryz.func35 rfl Tryz.ntmps35 rfl fun G => ?_
  simp only [argE]
  refine WS_formR v (iI : Rdr w0 (X * G) v UInt8 1 byteC (t :: k :: f :: z :: n :: l)) fun A cap hv => ?_
  subst hv
  repeat' (first | (refine WS_seqK ?_; intro K hK) | (refine hK _ ?_; clear hK K) | refine stZ ?_ | (refine s2Z ?_ ?_ <;> intro hc <;> (try simp only [cS] at hc) <;> (try (exfalso; first | contradiction | omega))) | refine sbZ ?_ | ((refine' LQ ?zh rfl ?_); case zh => intro F'; first | exact Q_move rfl | exact Q_assign rfl | exact Q_fieldAddr rfl iI rfl | exact Q_load rfl iI iI rfl | exact Q_pick_t rfl iI rfl | exact Q_pick_f rfl iI rfl | exact Q_build iI iI rfl rfl | exact Q_makeFunc rfl rfl) | ((first | refine LS_binS rfl rfl iI rfl ?_ ?_ | refine LS_binN rfl rfl iI rfl ?_ ?_ | refine DL_binS rfl rfl iI rfl ?_ ?_) <;> intro hc) | (refine shZ ?_; intro g) | (refine s0Z ?_; intro g) | refine LS_deferV0 rfl rfl rfl ?_ | (refine LS_one_t rfl iI iI rfl ?_) | (refine LS_must rfl rfl ?_ ?_ <;> (intro hc; first | (cases hc; done) | skip)) | with_reducible refine thenS_p ?_ | with_reducible refine blockS_p ?_)
  rotate_left
  · have hd : Pk.dec (t :: k :: f :: z :: n :: l) = none := by rw [hde, if_neg]; omega
    refine out_brk rfl rfl iI iI rfl rfl ?_
    simp only [decV, decH, hd]
    exact ⟨.slice none 0 0, rfl, finE⟩
  · have hd : Pk.dec (t :: k :: f :: z :: n :: l) = none := by rw [hde, if_neg]; omega
    refine out_brk rfl rfl iI iI rfl rfl ?_
    simp only [decV, decH, hd]
    exact ⟨.slice none 0 0, rfl, finE⟩
  rename_i p q gg u1 u2 hm1 hn1 hn8
  refine WS_loop (fun m τ => ∃ (i : Nat) (v' vl : Value), i + m = n.toNat ∧ 8 * i ≤ l.length ∧ Rdr w0 X v' UInt8 1 byteC (l.drop (8 * i)) ∧ τ = ⟨[(103, .int .i64 (i : Int)), (102, .int .i64 (n.toNat : Int)), (2, ptr p 0), (3, ptr q 0), (4, ptr gg 0)], [⟨.fn (.func 70) ([ptr p 0, ptr q 0] : List Value).toArray, ([] : List Value).toArray⟩], rows 180 2 lostC vl (lostsAt l i) * (cel gg 176 [v'] * (cel p 44 [.int .i64 (t.toNat : Int), .int .i64 (k.toNat : Int), .int .i64 0, .bool false, u32 0, u32 0, u32 0, u32 0, u32 0, u32 0, vl, strV []] * (cel q 4 [.bool false] * (X * G))))⟩) ?_ ?_
  · refine ⟨n.toNat, _, ⟨0, _, .slice none 0 0, by omega, by omega, (iI : Rdr w0 X (sTail 1 (sTail 1 (sTail 1 (sTail 1 (sTail 1 (.slice A (t :: k :: f :: z :: n :: l).length cap) 1) 1) 1) 1) 1) UInt8 1 byteC l), rfl⟩, ⟨rfl, rfl, rfl, rfl, rfl, trivial⟩, rfl, ?_⟩
    refine Ent.nilT ?_
    exact finE
  · rintro m τ ⟨i, v', vl, him, hi8, hR, rfl⟩
    have hdl : (l.drop (8 * i)).length = l.length - 8 * i := by simp
    have hdl4 : ((l.drop (8 * i)).drop 4).length = l.length - 8 * i - 4 := by simp; omega
    rcases Nat.lt_or_ge i n.toNat with hlt | hge
    · rcases Nat.lt_or_ge (l.length - 8 * i) 8 with h8 | h8
      · have hd : Pk.dec (t :: k :: f :: z :: n :: l) = none := by rw [hde, if_neg]; omega
        rcases Nat.lt_or_ge (l.length - 8 * i) 4 with h4 | h4
        · have hx := four_f w0 (l.drop (8 * i)) v' gg X (by omega)
          repeat' (first | (refine WS_seqK ?_; intro K hK) | (refine hK _ ?_; clear hK K) | refine stZ ?_ | (refine s2Z ?_ ?_ <;> intro hc <;> (try simp only [cS] at hc) <;> (try (exfalso; first | contradiction | omega))) | refine sbZ ?_)
          refine WS_drawAny (by kernel_rfl) ?_
          refine AS_step (r := [0, 2, 4]) (by kernel_rfl) rfl rfl ⟨?_, ?_, ?_, trivial⟩
          refine AO_q rfl (Q_fieldAddr rfl iI rfl) rfl ?_
          refine AS_step (r := [1, 2, 4]) (by kernel_rfl) rfl rfl ⟨?_, ?_, ?_, trivial⟩
          refine AO_q rfl (Q_load rfl iI iI rfl) rfl ?_
          refine AS_step (r := [2, 4]) (by kernel_rfl) rfl rfl ⟨?_, ?_, trivial⟩
          refine AO_q rfl (Q_move rfl) rfl ?_
          refine AS_step (r := [3, 4]) (by kernel_rfl) rfl rfl ⟨?_, ?_, trivial⟩
          refine AO_x rfl iI rfl hx iI ?_; rotate_left
          refine AO_q rfl (Q_move rfl) rfl ?_
          refine AS_step (r := [3]) (by kernel_rfl) rfl rfl ⟨?_, trivial⟩
          refine AO_x rfl iI rfl hx iI ?_; rotate_left
          refine AO_q rfl (Q_move rfl) rfl ?_
          refine AS_step (r := [2]) (by kernel_rfl) rfl rfl ⟨?_, trivial⟩
          refine AO_q rfl (Q_move rfl) rfl ?_
          refine AS_step (r := [3]) (by kernel_rfl) rfl rfl ⟨?_, trivial⟩
          refine AO_x rfl iI rfl hx iI ?_; rotate_left
          refine AO_q rfl (Q_move rfl) rfl ?_
          refine AS_step (r := [1, 3, 4]) (by kernel_rfl) rfl rfl ⟨?_, ?_, ?_, trivial⟩
          refine AO_q rfl (Q_load rfl iI iI rfl) rfl ?_
          refine AS_step (r := [3, 4]) (by kernel_rfl) rfl rfl ⟨?_, ?_, trivial⟩
          refine AO_x rfl iI rfl hx iI ?_; rotate_left
          refine AO_q rfl (Q_move rfl) rfl ?_
          refine AS_step (r := [3]) (by kernel_rfl) rfl rfl ⟨?_, trivial⟩
          refine AO_x rfl iI rfl hx iI ?_; rotate_left
          refine AO_x rfl iI rfl hx iI ?_; rotate_left
          refine AO_q rfl (Q_move rfl) rfl ?_
          refine AS_step (r := [1, 3]) (by kernel_rfl) rfl rfl ⟨?_, ?_, trivial⟩
          refine AO_q rfl (Q_load rfl iI iI rfl) rfl ?_
          refine AS_step (r := [3]) (by kernel_rfl) rfl rfl ⟨?_, trivial⟩
          refine AO_x rfl iI rfl hx iI ?_; rotate_left
          refine AO_x rfl iI rfl hx iI ?_; rotate_left
          refine AO_q rfl (Q_move rfl) rfl ?_
          refine AS_step (r := [1, 2]) (by kernel_rfl) rfl rfl ⟨?_, ?_, trivial⟩
          refine AO_q rfl (Q_load rfl iI iI rfl) rfl ?_
          refine AS_step (r := [2]) (by kernel_rfl) rfl rfl ⟨?_, trivial⟩
          refine AO_q rfl (Q_move rfl) rfl ?_
          refine AS_step (r := [3]) (by kernel_rfl) rfl rfl ⟨?_, trivial⟩
          refine AO_x rfl iI rfl hx iI ?_; rotate_left
          refine AO_q rfl (Q_move rfl) rfl ?_
          refine AS_step (r := [1, 3]) (by kernel_rfl) rfl rfl ⟨?_, ?_, trivial⟩
          refine AO_q rfl (Q_load rfl iI iI rfl) rfl ?_
          refine AS_step (r := [3]) (by kernel_rfl) rfl rfl ⟨?_, trivial⟩
          refine AO_x rfl iI rfl hx iI ?_; rotate_left
          refine AO_x rfl iI rfl hx iI ?_; rotate_left
          refine AO_q rfl (Q_move rfl) rfl ?_
          refine AS_step (r := [0, 3, 4]) (by kernel_rfl) rfl rfl ⟨?_, ?_, ?_, trivial⟩
          refine AO_q rfl (Q_fieldAddr rfl iI rfl) rfl ?_
          refine AS_step (r := [1, 3, 4]) (by kernel_rfl) rfl rfl ⟨?_, ?_, ?_, trivial⟩
          refine AO_q rfl (Q_load rfl iI iI rfl) rfl ?_
          refine AS_step (r := [3, 4]) (by kernel_rfl) rfl rfl ⟨?_, ?_, trivial⟩
          refine AO_x rfl iI rfl hx iI ?_; rotate_left
          refine AO_q rfl (Q_move rfl) rfl ?_
          refine AS_step (r := [3]) (by kernel_rfl) rfl rfl ⟨?_, trivial⟩
          refine AO_x rfl iI rfl hx iI ?_; rotate_left
          refine AO_x rfl iI rfl hx iI ?_; rotate_left
          refine AO_q rfl (Q_move rfl) rfl ?_
          refine AS_step (r := [1, 3]) (by kernel_rfl) rfl rfl ⟨?_, ?_, trivial⟩
          refine AO_q rfl (Q_load rfl iI iI rfl) rfl ?_
          refine AS_step (r := [3]) (by kernel_rfl) rfl rfl ⟨?_, trivial⟩
          refine AO_x rfl iI rfl hx iI ?_; rotate_left
          refine AO_x rfl iI rfl hx iI ?_; rotate_left
          refine AO_x rfl iI rfl hx iI ?_; rotate_left
          refine AO_q rfl (Q_move rfl) rfl ?_
          refine AS_step (r := [0, 3]) (by kernel_rfl) rfl rfl ⟨?_, ?_, trivial⟩
          refine AO_q rfl (Q_fieldAddr rfl iI rfl) rfl ?_
          refine AS_step (r := [1, 3]) (by kernel_rfl) rfl rfl ⟨?_, ?_, trivial⟩
          refine AO_q rfl (Q_load rfl iI iI rfl) rfl ?_
          refine AS_step (r := [3]) (by kernel_rfl) rfl rfl ⟨?_, trivial⟩
          refine AO_x rfl iI rfl hx iI ?_; rotate_left
          refine AO_x rfl iI rfl hx iI ?_; rotate_left
          refine AO_x rfl iI rfl hx iI ?_; rotate_left
          refine AO_q rfl (Q_move rfl) rfl ?_
          refine AS_step (r := [0, 2]) (by kernel_rfl) rfl rfl ⟨?_, ?_, trivial⟩
          refine AO_q rfl (Q_fieldAddr rfl iI rfl) rfl ?_
          refine AS_step (r := [1, 2]) (by kernel_rfl) rfl rfl ⟨?_, ?_, trivial⟩
          refine AO_q rfl (Q_load rfl iI iI rfl) rfl ?_
          refine AS_step (r := [2]) (by kernel_rfl) rfl rfl ⟨?_, trivial⟩
          refine AO_q rfl (Q_move rfl) rfl ?_
          refine AS_step (r := [3]) (by kernel_rfl) rfl rfl ⟨?_, trivial⟩
          refine AO_x rfl iI rfl hx iI ?_; rotate_left
          refine AO_q rfl (Q_move rfl) rfl ?_
          refine AS_step (r := [1, 3]) (by kernel_rfl) rfl rfl ⟨?_, ?_, trivial⟩
          refine AO_q rfl (Q_load rfl iI iI rfl) rfl ?_
          refine AS_step (r := [3]) (by kernel_rfl) rfl rfl ⟨?_, trivial⟩
          refine AO_x rfl iI rfl hx iI ?_; rotate_left
          refine AO_x rfl iI rfl hx iI ?_; rotate_left
          refine AO_q rfl (Q_move rfl) rfl ?_
          refine AS_step (r := [0, 3]) (by kernel_rfl) rfl rfl ⟨?_, ?_, trivial⟩
          refine AO_q rfl (Q_fieldAddr rfl iI rfl) rfl ?_
          refine AS_step (r := [1, 3]) (by kernel_rfl) rfl rfl ⟨?_, ?_, trivial⟩
          refine AO_q rfl (Q_load rfl iI iI rfl) rfl ?_
          refine AS_step (r := [3]) (by kernel_rfl) rfl rfl ⟨?_, trivial⟩
          refine AO_x rfl iI rfl hx iI ?_; rotate_left
          refine AO_x rfl iI rfl hx iI ?_; rotate_left
          refine AO_x rfl iI rfl hx iI ?_; rotate_left
          all_goals
            repeat' (first | with_reducible refine thenS_p ?_ | with_reducible refine blockS_p ?_)
            refine out_brk rfl rfl iI iI rfl rfl ?_
            simp only [decV, decH, hd]
            exact ⟨.slice none 0 0, rfl, finE⟩
        · have hf1 := four_t w0 (l.drop (8 * i)) v' gg X (by omega)
          have hx := four_f w0 ((l.drop (8 * i)).drop 4) (sTail 1 v' 4) gg X (by omega)
          repeat' (first | (refine WS_seqK ?_; intro K hK) | (refine hK _ ?_; clear hK K) | refine stZ ?_ | (refine s2Z ?_ ?_ <;> intro hc <;> (try simp only [cS] at hc) <;> (try (exfalso; first | contradiction | omega))) | refine sbZ ?_)
          refine WS_drawAny (by kernel_rfl) ?_
          refine AS_step (r := [0, 2, 4]) (by kernel_rfl) rfl rfl ⟨?_, ?_, ?_, trivial⟩
          refine AO_q rfl (Q_fieldAddr rfl iI rfl) rfl ?_
          refine AS_step (r := [1, 2, 4]) (by kernel_rfl) rfl rfl ⟨?_, ?_, ?_, trivial⟩
          refine AO_q rfl (Q_load rfl iI iI rfl) rfl ?_
          refine AS_step (r := [2, 4]) (by kernel_rfl) rfl rfl ⟨?_, ?_, trivial⟩
          refine AO_q rfl (Q_move rfl) rfl ?_
          refine AS_step (r := [3, 4]) (by kernel_rfl) rfl rfl ⟨?_, ?_, trivial⟩
          refine AO_h rfl (H_callX iI rfl hf1 iI) rfl fun u => ?_
          refine AS_step (r := [4]) (by kernel_rfl) rfl rfl ⟨?_, trivial⟩
          refine AO_q rfl (Q_move rfl) rfl ?_
          refine AS_step (r := [5]) (by kernel_rfl) rfl rfl ⟨?_, trivial⟩
          refine AO_x rfl iI rfl hx iI ?_; rotate_left
          refine AO_q rfl (Q_move rfl) rfl ?_
          refine AS_step (r := [3]) (by kernel_rfl) rfl rfl ⟨?_, trivial⟩
          refine AO_h rfl (H_callX iI rfl hf1 iI) rfl fun u => ?_
          refine AS_step (r := [5]) (by kernel_rfl) rfl rfl ⟨?_, trivial⟩
          refine AO_x rfl iI rfl hx iI ?_; rotate_left
          refine AO_q rfl (Q_move rfl) rfl ?_
          refine AS_step (r := [2]) (by kernel_rfl) rfl rfl ⟨?_, trivial⟩
          refine AO_q rfl (Q_move rfl) rfl ?_
          refine AS_step (r := [3]) (by kernel_rfl) rfl rfl ⟨?_, trivial⟩
          refine AO_h rfl (H_callX iI rfl hf1 iI) rfl fun u => ?_
          refine AS_step (r := [5]) (by kernel_rfl) rfl rfl ⟨?_, trivial⟩
          refine AO_x rfl iI rfl hx iI ?_; rotate_left
          refine AO_q rfl (Q_move rfl) rfl ?_
          refine AS_step (r := [1, 3, 4]) (by kernel_rfl) rfl rfl ⟨?_, ?_, ?_, trivial⟩
          refine AO_q rfl (Q_load rfl iI iI rfl) rfl ?_
          refine AS_step (r := [3, 4]) (by kernel_rfl) rfl rfl ⟨?_, ?_, trivial⟩
          refine AO_h rfl (H_callX iI rfl hf1 iI) rfl fun u => ?_
          refine AS_step (r := [4]) (by kernel_rfl) rfl rfl ⟨?_, trivial⟩
          refine AO_q rfl (Q_move rfl) rfl ?_
          refine AS_step (r := [5]) (by kernel_rfl) rfl rfl ⟨?_, trivial⟩
          refine AO_x rfl iI rfl hx iI ?_; rotate_left
          refine AO_q rfl (Q_move rfl) rfl ?_
          refine AS_step (r := [3]) (by kernel_rfl) rfl rfl ⟨?_, trivial⟩
          refine AO_h rfl (H_callX iI rfl hf1 iI) rfl fun u => ?_
          refine AS_step (r := [5]) (by kernel_rfl) rfl rfl ⟨?_, trivial⟩
          refine AO_x rfl iI rfl hx iI ?_; rotate_left
          refine AO_h rfl (H_callX iI rfl hf1 iI) rfl fun u => ?_
          refine AS_step (r := [1, 4]) (by kernel_rfl) rfl rfl ⟨?_, ?_, trivial⟩
          refine AO_q rfl (Q_load rfl iI iI rfl) rfl ?_
          refine AS_step (r := [4]) (by kernel_rfl) rfl rfl ⟨?_, trivial⟩
          refine AO_q rfl (Q_move rfl) rfl ?_
          refine AS_step (r := [5]) (by kernel_rfl) rfl rfl ⟨?_, trivial⟩
          refine AO_x rfl iI rfl hx iI ?_; rotate_left
          refine AO_q rfl (Q_move rfl) rfl ?_
          refine AS_step (r := [1, 5]) (by kernel_rfl) rfl rfl ⟨?_, ?_, trivial⟩
          refine AO_q rfl (Q_load rfl iI iI rfl) rfl ?_
          refine AS_step (r := [5]) (by kernel_rfl) rfl rfl ⟨?_, trivial⟩
          refine AO_x rfl iI rfl hx iI ?_; rotate_left
          refine AO_x rfl iI rfl hx iI ?_; rotate_left
          refine AO_q rfl (Q_move rfl) rfl ?_
          refine AS_step (r := [1, 3]) (by kernel_rfl) rfl rfl ⟨?_, ?_, trivial⟩
          refine AO_q rfl (Q_load rfl iI iI rfl) rfl ?_
          refine AS_step (r := [3]) (by kernel_rfl) rfl rfl ⟨?_, trivial⟩
          refine AO_h rfl (H_callX iI rfl hf1 iI) rfl fun u => ?_
          refine AS_step (r := [5]) (by kernel_rfl) rfl rfl ⟨?_, trivial⟩
          refine AO_x rfl iI rfl hx iI ?_; rotate_left
          refine AO_h rfl (H_callX iI rfl hf1 iI) rfl fun u => ?_
          refine AS_step (r := [1, 5]) (by kernel_rfl) rfl rfl ⟨?_, ?_, trivial⟩
          refine AO_q rfl (Q_load rfl iI iI rfl) rfl ?_
          refine AS_step (r := [5]) (by kernel_rfl) rfl rfl ⟨?_, trivial⟩
          refine AO_x rfl iI rfl hx iI ?_; rotate_left
          refine AO_x rfl iI rfl hx iI ?_; rotate_left
          refine AO_q rfl (Q_move rfl) rfl ?_
          refine AS_step (r := [1, 2]) (by kernel_rfl) rfl rfl ⟨?_, ?_, trivial⟩
          refine AO_q rfl (Q_load rfl iI iI rfl) rfl ?_
          refine AS_step (r := [2]) (by kernel_rfl) rfl rfl ⟨?_, trivial⟩
          refine AO_q rfl (Q_move rfl) rfl ?_
          refine AS_step (r := [3]) (by kernel_rfl) rfl rfl ⟨?_, trivial⟩
          refine AO_h rfl (H_callX iI rfl hf1 iI) rfl fun u => ?_
          refine AS_step (r := [5]) (by kernel_rfl) rfl rfl ⟨?_, trivial⟩
          refine AO_x rfl iI rfl hx iI ?_; rotate_left
          refine AO_q rfl (Q_move rfl) rfl ?_
          refine AS_step (r := [1, 3]) (by kernel_rfl) rfl rfl ⟨?_, ?_, trivial⟩
          refine AO_q rfl (Q_load rfl iI iI rfl) rfl ?_
          refine AS_step (r := [3]) (by kernel_rfl) rfl rfl ⟨?_, trivial⟩
          refine AO_h rfl (H_callX iI rfl hf1 iI) rfl fun u => ?_
          refine AS_step (r := [5]) (by kernel_rfl) rfl rfl ⟨?_, trivial⟩
          refine AO_x rfl iI rfl hx iI ?_; rotate_left
          refine AO_h rfl (H_callX iI rfl hf1 iI) rfl fun u => ?_
          refine AS_step (r := [1, 5]) (by kernel_rfl) rfl rfl ⟨?_, ?_, trivial⟩
          refine AO_q rfl (Q_load rfl iI iI rfl) rfl ?_
          refine AS_step (r := [5]) (by kernel_rfl) rfl rfl ⟨?_, trivial⟩
          refine AO_x rfl iI rfl hx iI ?_; rotate_left
          refine AO_x rfl iI rfl hx iI ?_; rotate_left
          refine AO_q rfl (Q_move rfl) rfl ?_
          refine AS_step (r := [0, 3, 4]) (by kernel_rfl) rfl rfl ⟨?_, ?_, ?_, trivial⟩
          refine AO_q rfl (Q_fieldAddr rfl iI rfl) rfl ?_
          refine AS_step (r := [1, 3, 4]) (by kernel_rfl) rfl rfl ⟨?_, ?_, ?_, trivial⟩
          refine AO_q rfl (Q_load rfl iI iI rfl) rfl ?_
          refine AS_step (r := [3, 4]) (by kernel_rfl) rfl rfl ⟨?_, ?_, trivial⟩
          refine AO_h rfl (H_callX iI rfl hf1 iI) rfl fun u => ?_
          refine AS_step (r := [4]) (by kernel_rfl) rfl rfl ⟨?_, trivial⟩
          refine AO_q rfl (Q_move rfl) rfl ?_
          refine AS_step (r := [5]) (by kernel_rfl) rfl rfl ⟨?_, trivial⟩
          refine AO_x rfl iI rfl hx iI ?_; rotate_left
          refine AO_q rfl (Q_move rfl) rfl ?_
          refine AS_step (r := [3]) (by kernel_rfl) rfl rfl ⟨?_, trivial⟩
          refine AO_h rfl (H_callX iI rfl hf1 iI) rfl fun u => ?_
          refine AS_step (r := [5]) (by kernel_rfl) rfl rfl ⟨?_, trivial⟩
          refine AO_x rfl iI rfl hx iI ?_; rotate_left
          refine AO_h rfl (H_callX iI rfl hf1 iI) rfl fun u => ?_
          refine AS_step (r := [1, 4]) (by kernel_rfl) rfl rfl ⟨?_, ?_, trivial⟩
          refine AO_q rfl (Q_load rfl iI iI rfl) rfl ?_
          refine AS_step (r := [4]) (by kernel_rfl) rfl rfl ⟨?_, trivial⟩
          refine AO_q rfl (Q_move rfl) rfl ?_
          refine AS_step (r := [5]) (by kernel_rfl) rfl rfl ⟨?_, trivial⟩
          refine AO_x rfl iI rfl hx iI ?_; rotate_left
          refine AO_q rfl (Q_move rfl) rfl ?_
          refine AS_step (r := [1, 5]) (by kernel_rfl) rfl rfl ⟨?_, ?_, trivial⟩
          refine AO_q rfl (Q_load rfl iI iI rfl) rfl ?_
          refine AS_step (r := [5]) (by kernel_rfl) rfl rfl ⟨?_, trivial⟩
          refine AO_x rfl iI rfl hx iI ?_; rotate_left
          refine AO_x rfl iI rfl hx iI ?_; rotate_left
          refine AO_q rfl (Q_move rfl) rfl ?_
          refine AS_step (r := [1, 3]) (by kernel_rfl) rfl rfl ⟨?_, ?_, trivial⟩
          refine AO_q rfl (Q_load rfl iI iI rfl) rfl ?_
          refine AS_step (r := [3]) (by kernel_rfl) rfl rfl ⟨?_, trivial⟩
          refine AO_h rfl (H_callX iI rfl hf1 iI) rfl fun u => ?_
          refine AS_step (r := [5]) (by kernel_rfl) rfl rfl ⟨?_, trivial⟩
          refine AO_x rfl iI rfl hx iI ?_; rotate_left
          refine AO_h rfl (H_callX iI rfl hf1 iI) rfl fun u => ?_
          refine AS_step (r := [1, 5]) (by kernel_rfl) rfl rfl ⟨?_, ?_, trivial⟩
          refine AO_q rfl (Q_load rfl iI iI rfl) rfl ?_
          refine AS_step (r := [5]) (by kernel_rfl) rfl rfl ⟨?_, trivial⟩
          refine AO_x rfl iI rfl hx iI ?_; rotate_left
          refine AO_x rfl iI rfl hx iI ?_; rotate_left
          refine AO_h rfl (H_callX iI rfl hf1 iI) rfl fun u => ?_
          refine AS_step (r := [0, 4]) (by kernel_rfl) rfl rfl ⟨?_, ?_, trivial⟩
          refine AO_q rfl (Q_fieldAddr rfl iI rfl) rfl ?_
          refine AS_step (r := [1, 4]) (by kernel_rfl) rfl rfl ⟨?_, ?_, trivial⟩
          refine AO_q rfl (Q_load rfl iI iI rfl) rfl ?_
          refine AS_step (r := [4]) (by kernel_rfl) rfl rfl ⟨?_, trivial⟩
          refine AO_q rfl (Q_move rfl) rfl ?_
          refine AS_step (r := [5]) (by kernel_rfl) rfl rfl ⟨?_, trivial⟩
          refine AO_x rfl iI rfl hx iI ?_; rotate_left
          refine AO_q rfl (Q_move rfl) rfl ?_
          refine AS_step (r := [1, 5]) (by kernel_rfl) rfl rfl ⟨?_, ?_, trivial⟩
          refine AO_q rfl (Q_load rfl iI iI rfl) rfl ?_
          refine AS_step (r := [5]) (by kernel_rfl) rfl rfl ⟨?_, trivial⟩
          refine AO_x rfl iI rfl hx iI ?_; rotate_left
          refine AO_x rfl iI rfl hx iI ?_; rotate_left
          refine AO_q rfl (Q_move rfl) rfl ?_
          refine AS_step (r := [0, 5]) (by kernel_rfl) rfl rfl ⟨?_, ?_, trivial⟩
          refine AO_q rfl (Q_fieldAddr rfl iI rfl) rfl ?_
          refine AS_step (r := [1, 5]) (by kernel_rfl) rfl rfl ⟨?_, ?_, trivial⟩
          refine AO_q rfl (Q_load rfl iI iI rfl) rfl ?_
          refine AS_step (r := [5]) (by kernel_rfl) rfl rfl ⟨?_, trivial⟩
          refine AO_x rfl iI rfl hx iI ?_; rotate_left
          refine AO_x rfl iI rfl hx iI ?_; rotate_left
          refine AO_x rfl iI rfl hx iI ?_; rotate_left
          refine AO_q rfl (Q_move rfl) rfl ?_
          refine AS_step (r := [0, 3]) (by kernel_rfl) rfl rfl ⟨?_, ?_, trivial⟩
          refine AO_q rfl (Q_fieldAddr rfl iI rfl) rfl ?_
          refine AS_step (r := [1, 3]) (by kernel_rfl) rfl rfl ⟨?_, ?_, trivial⟩
          refine AO_q rfl (Q_load rfl iI iI rfl) rfl ?_
          refine AS_step (r := [3]) (by kernel_rfl) rfl rfl ⟨?_, trivial⟩
          refine AO_h rfl (H_callX iI rfl hf1 iI) rfl fun u => ?_
          refine AS_step (r := [5]) (by kernel_rfl) rfl rfl ⟨?_, trivial⟩
          refine AO_x rfl iI rfl hx iI ?_; rotate_left
          refine AO_h rfl (H_callX iI rfl hf1 iI) rfl fun u => ?_
          refine AS_step (r := [1, 5]) (by kernel_rfl) rfl rfl ⟨?_, ?_, trivial⟩
          refine AO_q rfl (Q_load rfl iI iI rfl) rfl ?_
          refine AS_step (r := [5]) (by kernel_rfl) rfl rfl ⟨?_, trivial⟩
          refine AO_x rfl iI rfl hx iI ?_; rotate_left
          refine AO_x rfl iI rfl hx iI ?_; rotate_left
          refine AO_h rfl (H_callX iI rfl hf1 iI) rfl fun u => ?_
          refine AS_step (r := [0, 5]) (by kernel_rfl) rfl rfl ⟨?_, ?_, trivial⟩
          refine AO_q rfl (Q_fieldAddr rfl iI rfl) rfl ?_
          refine AS_step (r := [1, 5]) (by kernel_rfl) rfl rfl ⟨?_, ?_, trivial⟩
          refine AO_q rfl (Q_load rfl iI iI rfl) rfl ?_
          refine AS_step (r := [5]) (by kernel_rfl) rfl rfl ⟨?_, trivial⟩
          refine AO_x rfl iI rfl hx iI ?_; rotate_left
          refine AO_x rfl iI rfl hx iI ?_; rotate_left
          refine AO_x rfl iI rfl hx iI ?_; rotate_left
          refine AO_q rfl (Q_move rfl) rfl ?_
          refine AS_step (r := [0, 2]) (by kernel_rfl) rfl rfl ⟨?_, ?_, trivial⟩
          refine AO_q rfl (Q_fieldAddr rfl iI rfl) rfl ?_
          refine AS_step (r := [1, 2]) (by kernel_rfl) rfl rfl ⟨?_, ?_, trivial⟩
          refine AO_q rfl (Q_load rfl iI iI rfl) rfl ?_
          refine AS_step (r := [2]) (by kernel_rfl) rfl rfl ⟨?_, trivial⟩
          refine AO_q rfl (Q_move rfl) rfl ?_
          refine AS_step (r := [3]) (by kernel_rfl) rfl rfl ⟨?_, trivial⟩
          refine AO_h rfl (H_callX iI rfl hf1 iI) rfl fun u => ?_
          refine AS_step (r := [5]) (by kernel_rfl) rfl rfl ⟨?_, trivial⟩
          refine AO_x rfl iI rfl hx iI ?_; rotate_left
          refine AO_q rfl (Q_move rfl) rfl ?_
          refine AS_step (r := [1, 3]) (by kernel_rfl) rfl rfl ⟨?_, ?_, trivial⟩
          refine AO_q rfl (Q_load rfl iI iI rfl) rfl ?_
          refine AS_step (r := [3]) (by kernel_rfl) rfl rfl ⟨?_, trivial⟩
          refine AO_h rfl (H_callX iI rfl hf1 iI) rfl fun u => ?_
          refine AS_step (r := [5]) (by kernel_rfl) rfl rfl ⟨?_, trivial⟩
          refine AO_x rfl iI rfl hx iI ?_; rotate_left
          refine AO_h rfl (H_callX iI rfl hf1 iI) rfl fun u => ?_
          refine AS_step (r := [1, 5]) (by kernel_rfl) rfl rfl ⟨?_, ?_, trivial⟩
          refine AO_q rfl (Q_load rfl iI iI rfl) rfl ?_
          refine AS_step (r := [5]) (by kernel_rfl) rfl rfl ⟨?_, trivial⟩
          refine AO_x rfl iI rfl hx iI ?_; rotate_left
          refine AO_x rfl iI rfl hx iI ?_; rotate_left
          refine AO_q rfl (Q_move rfl) rfl ?_
          refine AS_step (r := [0, 3]) (by kernel_rfl) rfl rfl ⟨?_, ?_, trivial⟩
          refine AO_q rfl (Q_fieldAddr rfl iI rfl) rfl ?_
          refine AS_step (r := [1, 3]) (by kernel_rfl) rfl rfl ⟨?_, ?_, trivial⟩
          refine AO_q rfl (Q_load rfl iI iI rfl) rfl ?_
          refine AS_step (r := [3]) (by kernel_rfl) rfl rfl ⟨?_, trivial⟩
          refine AO_h rfl (H_callX iI rfl hf1 iI) rfl fun u => ?_
          refine AS_step (r := [5]) (by kernel_rfl) rfl rfl ⟨?_, trivial⟩
          refine AO_x rfl iI rfl hx iI ?_; rotate_left
          refine AO_h rfl (H_callX iI rfl hf1 iI) rfl fun u => ?_
          refine AS_step (r := [1, 5]) (by kernel_rfl) rfl rfl ⟨?_, ?_, trivial⟩
          refine AO_q rfl (Q_load rfl iI iI rfl) rfl ?_
          refine AS_step (r := [5]) (by kernel_rfl) rfl rfl ⟨?_, trivial⟩
          refine AO_x rfl iI rfl hx iI ?_; rotate_left
          refine AO_x rfl iI rfl hx iI ?_; rotate_left
          refine AO_h rfl (H_callX iI rfl hf1 iI) rfl fun u => ?_
          refine AS_step (r := [0, 5]) (by kernel_rfl) rfl rfl ⟨?_, ?_, trivial⟩
          refine AO_q rfl (Q_fieldAddr rfl iI rfl) rfl ?_
          refine AS_step (r := [1, 5]) (by kernel_rfl) rfl rfl ⟨?_, ?_, trivial⟩
          refine AO_q rfl (Q_load rfl iI iI rfl) rfl ?_
          refine AS_step (r := [5]) (by kernel_rfl) rfl rfl ⟨?_, trivial⟩
          refine AO_x rfl iI rfl hx iI ?_; rotate_left
          refine AO_x rfl iI rfl hx iI ?_; rotate_left
          refine AO_x rfl iI rfl hx iI ?_; rotate_left
          all_goals
            repeat' (first | with_reducible refine thenS_p ?_ | with_reducible refine blockS_p ?_)
            refine out_brk rfl rfl iI iI rfl rfl ?_
            simp only [decV, decH, hd]
            exact ⟨.slice none 0 0, rfl, finE⟩
      · have hf1 := four_t w0 (l.drop (8 * i)) v' gg X (by omega)
        have hf2 := four_t w0 ((l.drop (8 * i)).drop 4) (sTail 1 v' 4) gg X (by omega)
        have he : lostsAt l (i + 1) = lostsAt l i ++ [(numAt (l.drop (8 * i)) 0, numAt ((l.drop (8 * i)).drop 4) 0)] := by simp [lostsAt, numAt_dropK]
        have hR2 : Rdr w0 X (sTail 1 (sTail 1 v' 4) 4) UInt8 1 byteC (((l.drop (8 * i)).drop 4).drop 4) := iI
        rw [List.drop_drop, List.drop_drop, show 8 * i + (4 + 4) = 8 * (i + 1) by omega] at hR2
        have hll := lostsAt_length l i
        repeat' (first | (refine WS_seqK ?_; intro K hK) | (refine hK _ ?_; clear hK K) | refine stZ ?_ | (refine s2Z ?_ ?_ <;> intro hc <;> (try simp only [cS] at hc) <;> (try (exfalso; first | contradiction | omega))) | refine sbZ ?_ | ((first | refine' LQ ?zh rfl ?_ | refine' DL_qp rfl rfl rfl ?zh ?_ | refine' DL_q rfl rfl ?zh ?_); case zh => intro F'; first | exact Q_move rfl | exact Q_fieldAddr rfl iI rfl | exact Q_load rfl iI iI rfl | exact Q_addI rfl rfl (by omega) | exact Q_build iI iI rfl rfl) | (refine s0Z ?_; intro g) | (show WS _ _ _ (.region 22 _ true) _ _; refine WS_drawM 2 [0, 1, 2, 4, 3, 5, 6, 7, 8, 9, 10] 10 [1] (by kernel_rfl) rfl rfl iI ?_) | (refine DL_h (H_callX iI rfl hf1 iI) rfl rfl rfl ?_; intro u) | (refine DL_h (H_callX iI rfl hf2 iI) rfl rfl rfl ?_; intro u) | (refine DL_h (H_buildSliceR lostC [(numAt (l.drop (8 * i)) 0, numAt ((l.drop (8 * i)).drop 4) 0)] iI iI iI rfl rfl rfl rfl rfl iI rfl rfl rfl) rfl rfl rfl ?_; intro vb) | (refine DL_h (H_appendR rfl rfl iI iI rfl iI iI lostC_one (by first | omega | (simp [be_length] <;> omega)) rfl) rfl rfl rfl ?_; intro v2))
        refine ⟨m - 1, _, by omega, ⟨i + 1, _, v2, by omega, by omega, hR2, rfl⟩, ⟨rfl, rfl, rfl, rfl, rfl, trivial⟩, rfl, ?_⟩
        rw [he]
        exact finE
    · obtain rfl : i = n.toNat := by omega
      repeat' (first | (refine WS_seqK ?_; intro K hK) | (refine hK _ ?_; clear hK K) | refine stZ ?_ | (refine s2Z ?_ ?_ <;> intro hc <;> (try simp only [cS] at hc) <;> (try (exfalso; first | contradiction | omega))) | refine sbZ ?_ | ((refine' LQ ?zh rfl ?_); case zh => intro F'; first | exact Q_move rfl | exact Q_nilCheck rfl | exact Q_fieldAddr rfl iI rfl | exact Q_load rfl iI iI rfl | exact Q_loadA rfl iI iI rfl | exact Q_lenR rfl iI iI) | ((first | refine LS_binS rfl rfl iI rfl ?_ ?_ | refine LS_binN rfl rfl iI rfl ?_ ?_ | refine DL_binS rfl rfl iI rfl ?_ ?_) <;> intro hc) | (refine s0Z ?_; intro g) | (refine LS_must rfl rfl ?_ ?_ <;> (intro hc; first | (cases hc; done) | skip)) | with_reducible refine thenS_p ?_)
      all_goals
        first
        | (have hd : Pk.dec (t :: k :: f :: z :: n :: l) = none := by rw [hde, if_neg]; omega
           refine out_brk rfl rfl iI iI rfl rfl ?_
           simp only [decV, decH, hd]
           exact ⟨.slice none 0 0, rfl, finE⟩)
        | (have hd := hde.trans (if_pos (by omega))
           refine out_ok rfl rfl iI iI rfl ?_
           simp only [decV, decH, hd, Option.getD_some, Option.isSome_some]
           exact ⟨vl, by simp [Pk.val, Pk.cells, h2], finE⟩)
end

section
open Go.RowKit
theorem dec_bad {t k f z n : UInt8} {l : List UInt8} (h : z.toNat ≠ 0 ∨ t.toNat = 0) : Pk.dec (t :: k :: f :: z :: n :: l) = none := by
  simp only [Pk.dec]
  rw [if_neg]
  rintro ⟨h1, h2⟩
  rcases h with h | h
  · exact h (by rw [h1]; rfl)
  · exact h2 (UInt8.toNat_inj.1 (by rw [h]; rfl))
theorem dec_flag {t k f z n : UInt8} {l : List UInt8} (h : f.toNat ≠ 0) (h2 : f.toNat ≠ 8 ∨ k.toNat ≠ 1) : Pk.dec (t :: k :: f :: z :: n :: l) = none := by
  have h0 : f ≠ 0 := fun e => h (by rw [e]; rfl)
  have h8 : f = 8 → k ≠ 1 := fun e e2 => by
    rcases h2 with h2 | h2
    · exact h2 (by rw [e]; rfl)
    · exact h2 (by rw [e2]; rfl)
  simp only [Pk.dec]
  split
  · unfold Pk.body
    repeat' split
    all_goals first
      | rfl
      | (rename_i hk hc; exfalso; rcases hc.2 with e | ⟨e, _⟩ <;> first | exact h0 e | exact h8 e hk)
      | (exfalso; simp_all; done)
  · rfl
theorem dec_kind {t k f z n : UInt8} {l : List UInt8} (h1 : k.toNat ≠ 1) (h2 : k.toNat ≠ 2) (h3 : k.toNat ≠ 3) (h9 : k.toNat ≠ 9) : Pk.dec (t :: k :: f :: z :: n :: l) = none := by
  have k1 : k ≠ 1 := fun e => h1 (by rw [e]; rfl)
  have k2 : k ≠ 2 := fun e => h2 (by rw [e]; rfl)
  have k3 : k ≠ 3 := fun e => h3 (by rw [e]; rfl)
  have k9 : k ≠ 9 := fun e => h9 (by rw [e]; rfl)
  simp only [Pk.dec, Pk.body, if_neg k1, if_neg k2, if_neg k3, if_neg k9, ite_self]
attribute [local irreducible] WS LS OpQ OpT OpH OpTQ Spec SpecQ SpecX DSpec cel
variable (w0 : World)
theorem wdecode_spec (l : List UInt8) (hl : l.length ≤ 100000) (v : Value) (X : HProp) [hX : Rdr w0 X v UInt8 1 byteC l] : Spec Tryz.prog w0 35 [v] X (fun v' : Value => decV l v') (fun v' => decH l v' X) := by
  rcases Nat.lt_or_ge l.length 5 with h5 | h5
  · exact wdecode_short w0 l h5 v X
  obtain ⟨t, k, f, z, n, r, rfl⟩ : ∃ t k f z n r, l = t :: k :: f :: z :: n :: r := by
    match l, h5 with
    | t :: k :: f :: z :: n :: r, _ => exact ⟨t, k, f, z, n, r, rfl⟩
  have hr : r.length ≤ 100000 := by simp at hl; omega
  by_cases hz : z.toNat = 0
  · by_cases ht : t.toNat = 0
    · exact wdec_bad w0 t k f z n r hr (dec_bad (.inr ht)) (by omega) v X
    · by_cases hf : f.toNat = 0
      · by_cases h1 : k.toNat = 1
        · exact wdec_1a w0 t k f z n r hr hz (by omega) hf h1 v X
        · by_cases h2 : k.toNat = 2
          · exact wdec_2 w0 t k f z n r hr hz (by omega) hf h2 v X
          · by_cases h3 : k.toNat = 3
            · exact wdec_3 w0 t k f z n r hr hz (by omega) hf h3 v X
            · by_cases h9 : k.toNat = 9
              · exact wdec_9 w0 t k f z n r hr hz (by omega) hf h9 v X
              · exact wdec_other w0 t k f z n r hr (dec_kind h1 h2 h3 h9) hz (by omega) hf h1 h2 h3 h9 v X
      · by_cases h8 : f.toNat = 8
        · by_cases h1 : k.toNat = 1
          · exact wdec_1b w0 t k f z n r hr hz (by omega) h8 h1 v X
          · exact wdec_bad w0 t k f z n r hr (dec_flag hf (.inr h1)) (by omega) v X
        · exact wdec_bad w0 t k f z n r hr (dec_flag hf (.inl h8)) (by omega) v X
  · exact wdec_bad w0 t k f z n r hr (dec_bad (.inl hz)) (by omega) v X
def mdecV (l : List UInt8) (v' : Value) : Value := .tuple #[((Pk.dec l).getD Pk.zero).val v', .int .i64 (if (Pk.dec l).isSome then 0 else 1)]
end

section
open Go.RowKit
def Pk.lose (l : List (UInt32 × UInt32)) : Pk := ⟨1, 3, 0, false, 0, 0, 0, 0, 0, 0, l, []⟩
def Nd.tell (s : Nd) (to dest seq : UInt32) : Nd := s.send to (Pk.lose [(dest, seq)])
def Nd.rcvQ (s : Nd) (now : UInt64) (from_ : UInt32) (f : Str) : Nd := match Pk.dec f with
  | none => s.drop 0
  | some p => if from_ = 0 ∨ from_ = s.self then s.drop 0 else
    if p.kind = 9 ∧ p.dest ≠ s.self then Nd.drop { s.tell from_ p.dest (numT s.ls p.dest) with silent := now + 2000 } 8 else s.drop 8
def Nd.Deaf (s : Nd) (now : UInt64) (from_ : UInt32) (f : Str) : Prop := Pk.dec f = none ∨ (from_ = 0 ∨ from_ = s.self) ∨ now < s.silent
theorem Pk.lose_ok (l : List (UInt32 × UInt32)) (h : l.length ≤ 100000) : (Pk.lose l).Ok := by
  constructor <;> simp [Pk.lose, i64R, h]
attribute [local irreducible] WS LS OpQ OpT OpH OpTQ Spec SpecQ cel
variable (w0 : World)
set_option maxRecDepth 100000 in
set_option maxHeartbeats 8000000 in
theorem tell_spec (gn : Nat) (s : Nd) (h : NH) (to dest seq : UInt32) (hd : s.out.frames.length ≤ 900000) : Spec Tryz.prog w0 68 [ptr gn 0, u32 to, u32 dest, u32 seq] (nodP gn s h) (fun _ : Value => .tuple #[]) (fun vf => nodP gn (s.tell to dest seq) { h with vf := vf }) := by
  have p1 := fun v hv => nsend_spec w0 gn s h to (Pk.lose [(dest, seq)]) (Pk.lose_ok _ (by simp)) v hv (rows 180 2 lostC v [(dest, seq)]) (hX := rdr_bare _ _ _ _ _) hd
  simp only [Pk.val, Pk.cells, Pk.lose] at p1
  refine Spec.enter Tryz.func68 rfl Tryz.ntmps68 rfl fun G => ?_
  simp only [argE]
  repeat' (first | refine stZ ?_ | ((refine' LQ ?zh rfl ?_); case zh => intro F'; first | exact Q_move rfl | exact Q_build iI iI rfl rfl) | (refine LS_h (H_buildSliceR lostC [(dest, seq)] iI iI iI rfl rfl rfl rfl rfl iI rfl rfl rfl) rfl ?_; intro vl; refine LS_form vl iI fun A cap hv => ?_; subst hv) | (refine LS_h (H_callX iI rfl (p1 _ rfl) iI) rfl ?_; intro vf))
  exact ret_none (.inr rfl) rfl ⟨vf, rfl, by unfold Nd.tell Pk.lose; exact finE⟩
set_option maxRecDepth 100000 in
set_option maxHeartbeats 8000000 in
theorem rcvQ_spec (gn : Nat) (s : Nd) (now : UInt64) (from_ : UInt32) (f : Str) (hq : s.Deaf now from_ f) (hf : f.length ≤ 100000) (hd : s.out.frames.length ≤ 10000) (hd2 : s.out.dropped.length ≤ 10000) (bf br bn bw : Nat) (tf tr tn tw : TypeId) (v : Value) (X : HProp) [hX : Rdr w0 X v UInt8 1 byteC f] :
    Spec Tryz.prog w0 65 [ptr bf 0, ptr br 0, ptr bn 0, ptr bw 0] (nodA gn s * (cel bf tf [v] * (cel br tr [u32 from_] * (cel bn tn [ptr gn 0] * (cel bw tw [u64 now] * X))))) (fun _ : Unit => .tuple #[]) (fun _ => nodA gn (s.rcvQ now from_ f) * X) := by
  have p1 := wdecode_spec w0 f hf v X
  refine Spec.enter Tryz.func65 rfl Tryz.ntmps65 rfl fun G => ?_
  rw [star_assoc (nodA gn s)]
  refine WS_nod fun h => ?_
  have p2 := ndrop_spec w0 gn s h 0 (by omega)
  have p3 := ndrop_spec w0 gn s h 8 (by omega)
  have p4 := fun d => number_spec w0 h.tb s.self s.ls d
  have p5 := fun d q => tell_spec w0 gn s h from_ d q (by omega)
  unfold Nd.Deaf at hq
  unfold decV decH at p1
  cases hp : Pk.dec f with
  | none =>
    have es : s.rcvQ now from_ f = s.drop 0 := by unfold Nd.rcvQ; rw [hp]
    simp only [hp, Option.getD_none, Option.isSome_none, Pk.val, Pk.cells, Pk.zero] at p1
    simp only [argE]
    repeat' (first | (refine WS_seqK ?_; intro K hK) | (refine hK _ ?_; clear hK K) | refine stZ ?_ | (refine s2Z ?_ ?_ <;> intro hc <;> (try simp only [cS] at hc) <;> (try (exfalso; first | contradiction | omega))) | ((first | refine' LQ ?zh rfl ?_ | refine' DL_qp rfl rfl rfl ?zh ?_); case zh => intro F'; first | exact Q_move rfl | exact Q_assign rfl | exact Q_load rfl iI iI rfl | exact Q_extract rfl rfl | exact Q_pick_t rfl iI rfl | exact Q_un rfl iI) | (refine shZ ?_; intro g) | (refine s0Z ?_; intro g) | refine WS_drawS (by kernel_rfl) ?_ | (refine LS_h (H_callX iI rfl p1 iI) rfl ?_; intro vl) | (refine LS_h (H_callX iI rfl p2 iI) rfl ?_; intro v2))
    exact ret_none (.inr rfl) rfl ⟨(), rfl, by rw [es, star_assoc (nodA _ _)]; exact Ent.nod { h with vd := v2 } (finE)⟩
  | some p =>
    simp only [hp, Option.getD_some, Option.isSome_some, Pk.val, Pk.cells] at p1
    by_cases h0 : from_ = 0 ∨ from_ = s.self
    · have es : s.rcvQ now from_ f = s.drop 0 := by unfold Nd.rcvQ; rw [hp]; simp only [h0, if_true]
      clear p3 p4 p5
      simp only [argE]
      rcases h0 with h0 | h0
      · repeat' (first | (refine WS_seqK ?_; intro K hK) | (refine hK _ ?_; clear hK K) | refine stZ ?_ | (refine s2Z ?_ ?_ <;> intro hc <;> (try simp only [cS] at hc) <;> (try (exfalso; first | contradiction | omega))) | refine sbZ ?_ | ((first | refine' LQ ?zh rfl ?_ | refine' DL_qp rfl rfl rfl ?zh ?_ | refine' DL_qpg rfl rfl rfl rfl ?zh ?_); case zh => intro F'; first | exact Q_move rfl | exact Q_assign rfl | exact Q_load rfl iI iI rfl | exact Q_extract rfl rfl | exact Q_pick_t rfl iI rfl | exact Q_pick_f rfl iI rfl | exact Q_un rfl iI) | (refine shZ ?_; intro g) | (refine s0Z ?_; intro g) | refine WS_drawS (by kernel_rfl) ?_ | (refine LS_h (H_callX iI rfl p1 iI) rfl ?_; intro vl) | (refine LS_h (H_callX iI rfl p2 iI) rfl ?_; intro v2))
        exact ret_none (.inr rfl) rfl ⟨(), rfl, by rw [es, star_assoc (nodA _ _)]; exact Ent.nod { h with vd := v2 } (finE)⟩
      · by_cases h00 : from_ = 0
        · repeat' (first | (refine WS_seqK ?_; intro K hK) | (refine hK _ ?_; clear hK K) | refine stZ ?_ | (refine s2Z ?_ ?_ <;> intro hc <;> (try simp only [cS] at hc) <;> (try (exfalso; first | contradiction | omega))) | refine sbZ ?_ | ((first | refine' LQ ?zh rfl ?_ | refine' DL_qp rfl rfl rfl ?zh ?_ | refine' DL_qpg rfl rfl rfl rfl ?zh ?_); case zh => intro F'; first | exact Q_move rfl | exact Q_assign rfl | exact Q_load rfl iI iI rfl | exact Q_extract rfl rfl | exact Q_pick_t rfl iI rfl | exact Q_pick_f rfl iI rfl | exact Q_un rfl iI) | (refine shZ ?_; intro g) | (refine s0Z ?_; intro g) | refine WS_drawS (by kernel_rfl) ?_ | (refine LS_h (H_callX iI rfl p1 iI) rfl ?_; intro vl) | (refine LS_h (H_callX iI rfl p2 iI) rfl ?_; intro v2))
          exact ret_none (.inr rfl) rfl ⟨(), rfl, by rw [es, star_assoc (nodA _ _)]; exact Ent.nod { h with vd := v2 } (finE)⟩
        · simp only [nodP, nodPm, nodC] at p2 ⊢
          repeat' (first | (show WS _ _ _ (.region 2 _ true) _ _; refine WS_drawA (.range 15) (by decide +kernel) rfl ?_) | (refine WS_seqK ?_; intro K hK) | (refine hK _ ?_; clear hK K) | refine stZ ?_ | (refine s2Z ?_ ?_ <;> intro hc <;> (try simp only [cS] at hc) <;> (try (exfalso; first | contradiction | omega))) | refine sbZ ?_ | ((first | refine' LQ ?zh rfl ?_ | refine' DL_q rfl rfl ?zh ?_ | refine' DL_qg rfl rfl rfl ?zh ?_); case zh => intro F'; first | exact Q_move rfl | exact Q_assign rfl | exact Q_nilCheck rfl | exact Q_fieldAddr rfl iI rfl | exact Q_load rfl iI iI rfl | exact Q_extract rfl rfl | exact Q_pick_f rfl iI rfl | exact Q_un rfl iI) | (refine shZ ?_; intro g) | (refine s0Z ?_; intro g) | (refine LS_h (H_callX iI rfl p1 iI) rfl ?_; intro vl) | (refine LS_h (H_callX iI rfl p2 iI) rfl ?_; intro v2))
          exact ret_none (.inr rfl) rfl ⟨(), rfl, by rw [es, star_assoc (nodA _ _)]; exact Ent.nod { h with vd := v2 } (by simp only [nodP, nodPm, nodC]; exact finE)⟩
    · have hs : now < s.silent := by
        rcases hq with hq | hq | hq
        · rw [hp] at hq; cases hq
        · exact absurd hq h0
        · exact hq
      obtain ⟨ttl, kind, hops, unknown, id, dest, destSeq, from2, fromSeq, life, lost, payload⟩ := p
      have h1 : from_ ≠ 0 := fun e => h0 (.inl e)
      have h2 : from_ ≠ s.self := fun e => h0 (.inr e)
      simp only at p1
      by_cases hk : kind = 9
      · subst hk
        by_cases hd3 : dest = s.self
        · have es : s.rcvQ now from_ f = s.drop 8 := by unfold Nd.rcvQ; rw [hp]; simp [h1, h2, hd3]
          clear p2 p4 p5
          simp only [nodP, nodPm, nodC] at p3 ⊢
          simp only [argE]
          repeat' (first | (show WS _ _ _ (.region 2 _ true) _ _; refine WS_drawA (.range 15) (by decide +kernel) rfl ?_) | (show WS _ _ _ (.region 4 _ true) _ _; refine WS_drawA (.range 7) (by decide +kernel) rfl ?_) | (show WS _ _ _ (.region 5 _ true) _ _; refine WS_drawA (.range 12) (by decide +kernel) rfl ?_) | (refine WS_seqK ?_; intro K hK) | (refine hK _ ?_; clear hK K) | refine stZ ?_ | (refine s2Z ?_ ?_ <;> intro hc <;> (try simp only [cS] at hc) <;> (try (exfalso; first | contradiction | omega))) | refine sbZ ?_ | ((first | refine' LQ ?zh rfl ?_ | refine' DL_q rfl rfl ?zh ?_ | refine' DL_qg rfl rfl rfl ?zh ?_); case zh => intro F'; first | exact Q_move rfl | exact Q_assign rfl | exact Q_nilCheck rfl | exact Q_fieldAddr rfl iI rfl | exact Q_load rfl iI iI rfl | exact Q_extract rfl rfl | exact Q_pick_t rfl iI rfl | exact Q_pick_f rfl iI rfl | exact Q_un rfl iI) | (refine shZ ?_; intro g) | (refine s0Z ?_; intro g) | (refine LS_h (H_callX iI rfl p1 iI) rfl ?_; intro vl) | (refine LS_h (H_callX iI rfl p3 iI) rfl ?_; intro v2))
          exact ret_none (.inr rfl) rfl ⟨(), rfl, by rw [es, star_assoc (nodA _ _)]; exact Ent.nod { h with vd := v2 } (by simp only [nodP, nodPm, nodC]; exact finE)⟩
        · obtain ⟨s1, hs1⟩ : ∃ s1 : Nd, s1 = s.tell from_ dest (numT s.ls dest) := ⟨_, rfl⟩
          have es : s.rcvQ now from_ f = Nd.drop { s1 with silent := now + 2000 } 8 := by unfold Nd.rcvQ; rw [hp, hs1]; simp [h1, h2, hd3]
          have er : ∀ h', restP gn { s1 with silent := now + 2000 } h' = restP gn s1 h' := fun _ => rfl
          have p6 := fun vf => ndrop_spec w0 gn { s1 with silent := now + 2000 } { h with vf := vf } 8 (by rw [hs1]; show s.out.dropped.length ≤ _; omega)
          replace p4 := p4 dest
          replace p5 := p5 dest (numT s.ls dest)
          rw [← hs1] at p5
          clear p2 p3
          simp only [nodP, nodPm, nodC, er] at p5 p6 ⊢
          simp only [argE]
          repeat' (first | (show WS _ _ _ (.region 2 _ true) _ _; refine WS_drawA (.range 15) (by decide +kernel) rfl ?_) | (show WS _ _ _ (.region 4 _ true) _ _; refine WS_drawA (.range 7) (by decide +kernel) rfl ?_) | (show WS _ _ _ (.region 5 _ true) _ _; refine WS_drawA (.range 12) (by decide +kernel) rfl ?_) | (show WS _ _ _ (.region 6 _ true) _ _; refine WS_drawK (.range 12) 6 [0, 3, 5] (by decide +kernel) rfl ?_) | (refine WS_seqK ?_; intro K hK) | (refine hK _ ?_; clear hK K) | refine stZ ?_ | (refine s2Z ?_ ?_ <;> intro hc <;> (try simp only [cS] at hc) <;> (try (exfalso; first | contradiction | omega))) | refine sbZ ?_ | ((first | refine' LQ ?zh rfl ?_ | refine' DL_qp rfl rfl rfl ?zh ?_ | refine' DL_q rfl rfl ?zh ?_ | refine' DL_qg rfl rfl rfl ?zh ?_); case zh => intro F'; first | exact Q_move rfl | exact Q_assign rfl | exact Q_nilCheck rfl | exact Q_fieldAddr rfl iI rfl | exact Q_load rfl iI iI rfl | exact Q_extract rfl rfl | exact Q_pick_t rfl iI rfl | exact Q_pick_f rfl iI rfl | exact Q_un rfl iI) | ((refine' LQ ?zh rfl ?_); case zh => intro F'; exact Q_bin rfl rfl iI) | (refine shZ ?_; intro g) | (refine s0Z ?_; intro g) | (refine LS_h (H_callX iI rfl p1 iI) rfl ?_; intro vl) | (refine DL_h (H_callX iI rfl p4 iI) rfl rfl rfl ?_; intro u4) | (refine LS_h (H_callX iI rfl p5 iI) rfl ?_; intro vf; replace p6 := p6 vf) | (refine LS_h (H_callX iI rfl p6 iI) rfl ?_; intro v2))
          exact ret_none (.inr rfl) rfl ⟨(), rfl, by rw [es, star_assoc (nodA _ _)]; exact Ent.nod { h with vf := vf, vd := v2 } (by simp only [nodP, nodPm, nodC]; exact finE)⟩
      · have es : s.rcvQ now from_ f = s.drop 8 := by unfold Nd.rcvQ; rw [hp]; simp [h1, h2, hk]
        clear p2 p4 p5
        simp only [nodP, nodPm, nodC] at p3 ⊢
        simp only [argE]
        repeat' (first | (show WS _ _ _ (.region 2 _ true) _ _; refine WS_drawA (.range 15) (by decide +kernel) rfl ?_) | (show WS _ _ _ (.region 4 _ true) _ _; refine WS_drawA (.range 7) (by decide +kernel) rfl ?_) | (show WS _ _ _ (.region 5 _ true) _ _; refine WS_drawA (.range 12) (by decide +kernel) rfl ?_) | (refine WS_seqK ?_; intro K hK) | (refine hK _ ?_; clear hK K) | refine stZ ?_ | (refine s2Z ?_ ?_ <;> intro hc <;> (try simp only [cS] at hc) <;> (try (exfalso; first | contradiction | omega))) | refine sbZ ?_ | ((first | refine' LQ ?zh rfl ?_ | refine' DL_q rfl rfl ?zh ?_ | refine' DL_qg rfl rfl rfl ?zh ?_); case zh => intro F'; first | exact Q_move rfl | exact Q_assign rfl | exact Q_nilCheck rfl | exact Q_fieldAddr rfl iI rfl | exact Q_load rfl iI iI rfl | exact Q_extract rfl rfl | exact Q_pick_f rfl iI rfl | exact Q_un rfl iI) | (refine shZ ?_; intro g) | (refine s0Z ?_; intro g) | (refine LS_h (H_callX iI rfl p1 iI) rfl ?_; intro vl) | (refine LS_h (H_callX iI rfl p3 iI) rfl ?_; intro v2))
        exact ret_none (.inr rfl) rfl ⟨(), rfl, by rw [es, star_assoc (nodA _ _)]; exact Ent.nod { h with vd := v2 } (by simp only [nodP, nodPm, nodC]; exact finE)⟩
end

section
open Go.RowKit
theorem Nd.noteL_jour (s : Nd) (l : Ln) : (s.noteL l).out.journal.length ≤ s.out.journal.length + 13 := by
  unfold Nd.noteL
  (repeat' split) <;> simp [Nd.write, Rec.bytes_length]
theorem Nd.noteO_jour (s : Nd) : s.noteO.out.journal.length ≤ s.out.journal.length + 13 := by
  unfold Nd.noteO
  split <;> simp [Nd.write, Rec.bytes_length]
theorem Nd.noteLs_jour (L : List Ln) : ∀ s : Nd, (L.foldl Nd.noteL s).out.journal.length ≤ s.out.journal.length + 13 * L.length := by
  induction L with
  | nil => intro s; simp
  | cons l L ih => intro s; have h1 := ih (s.noteL l); have h2 := s.noteL_jour l; simp only [List.foldl_cons, List.length_cons]; omega
theorem Nd.note_jour (s : Nd) (ok : TabOk s.ls) : s.note.out.journal.length ≤ s.out.journal.length + 117 := by
  have h1 := Nd.noteLs_jour (listT s.ls) s.noteO
  have h2 := s.noteO_jour
  have h3 := listT_length s.ls
  have h4 := ok.short
  unfold Nd.note
  omega
structure Nd.Same (s t : Nd) : Prop where
  ls : t.ls = s.ls
  self : t.self = s.self
  seq : t.seq = s.seq
  silent : t.silent = s.silent
  seen : t.seen = s.seen
  order : t.order = s.order
  wait : t.wait = s.wait
  srs : t.srs = s.srs
  clk : t.clk = s.clk
  last : t.last = s.last
  names : t.names = s.names
  ids : t.ids = s.ids
  datas : t.datas = s.datas
  sent : t.sent = s.sent
  now : t.now = s.now
  frames : t.out.frames = s.out.frames
  came : t.out.came = s.out.came
  dropped : t.out.dropped = s.out.dropped
  replace : t.out.replace = s.out.replace
theorem Nd.Same.rfl' (s : Nd) : s.Same s := by constructor <;> rfl
theorem Nd.Same.write (s : Nd) (r : Rec) : s.Same (s.write r) := by constructor <;> rfl
theorem Nd.Same.trans {s t u : Nd} (h : s.Same t) (k : t.Same u) : s.Same u := by
  constructor
  · exact k.ls.trans h.ls
  · exact k.self.trans h.self
  · exact k.seq.trans h.seq
  · exact k.silent.trans h.silent
  · exact k.seen.trans h.seen
  · exact k.order.trans h.order
  · exact k.wait.trans h.wait
  · exact k.srs.trans h.srs
  · exact k.clk.trans h.clk
  · exact k.last.trans h.last
  · exact k.names.trans h.names
  · exact k.ids.trans h.ids
  · exact k.datas.trans h.datas
  · exact k.sent.trans h.sent
  · exact k.now.trans h.now
  · exact k.frames.trans h.frames
  · exact k.came.trans h.came
  · exact k.dropped.trans h.dropped
  · exact k.replace.trans h.replace
theorem Nd.Same.noteL (s : Nd) (l : Ln) : s.Same (s.noteL l) := by
  unfold Nd.noteL
  (repeat' split) <;> first | exact Nd.Same.write _ _ | exact Nd.Same.rfl' _
theorem Nd.Same.noteO (s : Nd) : s.Same s.noteO := by
  unfold Nd.noteO
  split
  · exact Nd.Same.write _ _
  · exact Nd.Same.rfl' _
theorem Nd.Same.noteLs (L : List Ln) : ∀ s : Nd, s.Same (L.foldl Nd.noteL s) := by
  induction L with
  | nil => intro s; exact Nd.Same.rfl' s
  | cons l L ih => intro s; exact (Nd.Same.noteL s l).trans (ih _)
theorem Nd.Same.note (s : Nd) : s.Same s.note := (Nd.Same.noteO s).trans (Nd.Same.noteLs _ _)
theorem Nd.begin_self (s : Nd) (now : UInt64) : (s.begin now).self = s.self := (Nd.Same.note _).self
theorem Nd.begin_frames (s : Nd) (now : UInt64) : (s.begin now).out.frames = [] := (Nd.Same.note _).frames
theorem Nd.begin_came (s : Nd) (now : UInt64) : (s.begin now).out.came = [] := (Nd.Same.note _).came
theorem Nd.begin_dropped (s : Nd) (now : UInt64) : (s.begin now).out.dropped = [] := (Nd.Same.note _).dropped
theorem Nd.begin_recs (s : Nd) (now : UInt64) (ok : TabOk s.ls) : (s.begin now).recs.length ≤ s.recs.length + 9 := by
  have := Nd.note_recs { s with now := now, out := OutD.zero, ls := expT now s.ls } (ok.exp now)
  exact this
theorem Nd.begin_jour (s : Nd) (now : UInt64) (ok : TabOk s.ls) : (s.begin now).out.journal.length ≤ 117 := by
  have := Nd.note_jour { s with now := now, out := OutD.zero, ls := expT now s.ls } (ok.exp now)
  simpa [OutD.zero, Nd.begin] using this
attribute [local irreducible] WS LS OpQ OpT OpH OpTQ Spec SpecQ cel
variable (w0 : World)
end

section
def seenAt (m : List (Rq × UInt64)) (r : Rq) : UInt64 := (mget m r).getD 0
def remStep (now : UInt64) (p : List (Rq × UInt64) × List Rq) (x : Rq) : List (Rq × UInt64) × List Rq := if now < seenAt p.1 x then (p.1, p.2 ++ [x]) else (mdel p.1 x, p.2)
def remAll (now : UInt64) (m : List (Rq × UInt64)) (l : List Rq) : List (Rq × UInt64) × List Rq := l.foldl (remStep now) (m, [])
def firstStep (m : List (Rq × UInt64)) (l : List Rq) (i : Nat) (j : Nat) : Nat := if seenAt m (l.getD j ⟨0, 0⟩) < seenAt m (l.getD i ⟨0, 0⟩) then j else i
def firstOf (m : List (Rq × UInt64)) (l : List Rq) (k : Nat) : Nat := (List.range k).foldl (firstStep m l) 0
theorem firstOf_succ (m : List (Rq × UInt64)) (l : List Rq) (k : Nat) : firstOf m l (k + 1) = firstStep m l (firstOf m l k) k := by simp [firstOf, List.range_succ]
theorem firstOf_lt (m : List (Rq × UInt64)) (l : List Rq) : ∀ k, k ≤ l.length → 0 < l.length → firstOf m l k < l.length
  | 0, _, h => h
  | k + 1, hk, h => by
    have := firstOf_lt m l k (by omega) h
    rw [firstOf_succ]
    unfold firstStep
    split <;> omega
def Nd.remember (s : Nd) (r : Rq) : Nd :=
  let p := remAll s.now s.seen s.order
  let m := mset p.1 r (s.now + 1280)
  let l := p.2 ++ [r]
  if l.length ≤ 16 then { s with seen := m, order := l } else
  let i := firstOf m l l.length
  { s with seen := mdel m (l.getD i ⟨0, 0⟩), order := l.take i ++ l.drop (i + 1) }
theorem remAll_snoc (now : UInt64) (m : List (Rq × UInt64)) (l : List Rq) (x : Rq) : remAll now m (l ++ [x]) = remStep now (remAll now m l) x := by simp [remAll]
theorem remAll_length (now : UInt64) (m : List (Rq × UInt64)) (l : List Rq) : (remAll now m l).2.length ≤ l.length := by
  induction l using snocInd with
  | nil => simp [remAll]
  | snoc l x ih =>
    rw [remAll_snoc]
    unfold remStep
    split <;> simp <;> omega
def Nd.soon (s : Nd) : UInt64 := s.now + 3000
def Ln.learned (dest seq : UInt32) (hops : Int) (next : UInt32) (e : UInt64) : Ln := ⟨dest, seq, hops, next, false, e, []⟩
def Nd.answer (s : Nd) (p : Pk) : Nd := match lookT s.ls p.from_ s.now with
  | some b => s.send b.next { p with ttl := 8, kind := 2 }
  | none => s.drop 3
def hop1 (p : Pk) : Int := min (p.hops + 1) 255
def Nd.req3 (s : Nd) (p : Pk) : Nd :=
  if p.ttl = 1 then s.drop 4 else
  match lget s.ls p.dest with
  | some l => s.send 0 { p with ttl := p.ttl - 1, hops := hop1 p, destSeq := max p.destSeq l.seq, unknown := false }
  | none => s.send 0 { p with ttl := p.ttl - 1, hops := hop1 p }
def Nd.ans2 (s : Nd) (p : Pk) (x : Ln) : Nd :=
  Nd.answer { s with ls := befT (match lookT s.ls p.from_ s.now with | some b => befT s.ls p.dest b.next | none => s.ls) p.from_ x.next } ⟨0, 0, x.hops, false, 0, p.dest, x.seq, p.from_, 0, (x.expires - s.now).toUInt32, [], []⟩
def Nd.req2 (s : Nd) (p : Pk) : Nd :=
  if p.dest = s.self then
    let q := if p.unknown then s.seq else max s.seq p.destSeq
    Nd.answer { s with seq := q } ⟨0, 0, 0, false, 0, p.dest, q, p.from_, 0, 6000, [], []⟩
  else match lookT s.ls p.dest s.now with
  | some x => if p.unknown = true ∨ p.destSeq ≤ x.seq then s.ans2 p x else s.req3 p
  | none => s.req3 p
def Nd.reqU (s : Nd) (src : UInt32) (p : Pk) : Int × List Ln := updT s.self s.ls (Ln.learned p.from_ p.fromSeq (hop1 p) src s.soon)
def Nd.req (s : Nd) (src : UInt32) (p : Pk) : Nd :=
  if p.from_ = s.self ∨ s.now < seenAt s.seen ⟨p.from_, p.id⟩ then s.drop 1 else
  let s1 := s.remember ⟨p.from_, p.id⟩
  let u := s1.reqU src p
  if u.1 = 4 then Nd.drop { s1 with ls := u.2 } 2 else
  Nd.req2 { s1 with ls := if u.1 = 3 then useT u.2 p.from_ s1.soon else u.2 } p
def Nd.lost (s : Nd) (l : List (UInt32 × UInt32)) : Nd := if 0 < l.length then s.send 0 (Pk.lose l) else s
def loseStep (src : UInt32) (a : List Ln × List (UInt32 × UInt32) × Bool) (l : UInt32 × UInt32) : List Ln × List (UInt32 × UInt32) × Bool :=
  (loseT a.1 src l.1 l.2, if (losesT a.1 src l.1 && decide (0 < ((lget a.1 l.1).getD Ln.zero).before.length)) = true then a.2.1 ++ [(l.1, numT (loseT a.1 src l.1 l.2) l.1)] else a.2.1, a.2.2 || losesT a.1 src l.1)
def loseAll (src : UInt32) (ls : List Ln) (l : List (UInt32 × UInt32)) : List Ln × List (UInt32 × UInt32) × Bool := l.foldl (loseStep src) (ls, [], false)
def Nd.los (s : Nd) (src : UInt32) (p : Pk) : Nd :=
  let a := loseAll src s.ls p.lost
  let s1 := Nd.lost { s with ls := a.1 } a.2.1
  if a.2.2 = true then s1 else s1.drop 7
def Nd.came (s : Nd) (x : UInt32 × Str) : Nd := { s with out := { s.out with came := s.out.came ++ [x] } }
def Nd.dat (s : Nd) (src : UInt32) (p : Pk) : Nd :=
  if p.dest = s.self then s.came (p.from_, p.payload) else
  if p.ttl = 1 then s.drop 4 else
  match lookT s.ls p.dest s.now with
  | none => Nd.tell { s.drop 3 with ls := bumpT s.ls p.dest } src p.dest (numT (bumpT s.ls p.dest) p.dest)
  | some x => { s.send x.next { p with ttl := p.ttl - 1 } with ls := useT (useT s.ls p.dest s.soon) p.from_ s.soon }
def Nd.brk (s : Nd) (nb : UInt32) : Nd := Nd.lost { s with ls := brkT nb s.ls } (outB nb (sortU (dests s.ls)) s.ls)
def Nd.hand (s : Nd) (dest : UInt32) (text : Str) : Nd := match lookT s.ls dest s.now with
  | none => s
  | some x => { Nd.send { s with datas := s.datas + 1 } x.next ⟨8, 9, 0, false, s.datas + 1, dest, 0, s.self, 0, 0, [], text⟩ with ls := useT s.ls dest s.soon }
def srFind (ss : List Sr) (d : UInt32) : Option Nat := ss.findIdx? fun x => x.dest = d
def nmFind (ss : List Sr) (k : Int) : Option Nat := ss.findIdx? fun x => x.name = k
def Nd.texts (s : Nd) (d : UInt32) : List Str := (mget s.wait d).getD []
def Nd.stop (s : Nd) (k : Nat) : Nd := { s with srs := s.srs.eraseIdx k }
def Nd.handAll (s : Nd) (dest : UInt32) (l : List Str) : Nd := l.foldl (fun s t => s.hand dest t) s
def Nd.unwait (s : Nd) (dest : UInt32) : Nd := { s with wait := mdel s.wait dest }
def Nd.flush (s : Nd) (dest : UInt32) : Nd :=
  let s1 := (s.handAll dest (s.texts dest)).unwait dest
  match srFind s1.srs dest with
  | some k => s1.stop k
  | none => s1
def busyN (now : UInt64) (l : List UInt64) : Nat := (l.filter fun a => now < a + 1000).length
def Nd.arm (s : Nd) (k : Int) (w : UInt64) : Nd := { s with clk := s.clk ++ [⟨s.now + w, s.last + 1, k⟩], last := s.last + 1 }
def Nd.setOut (s : Nd) (k : Nat) (b : Bool) : Nd := { s with srs := s.srs.modify k fun x => { x with out := b } }
def trimS (l : List UInt64) : List UInt64 := if 5 < l.length then l.drop 1 else l
def askWait (x : Sr) : UInt64 := UInt64.ofInt (80 * (x.ttl + 2) * 2 ^ x.retries.toNat)
def Nd.ask1 (s : Nd) (x : Sr) : Nd :=
  let s1 := Nd.note { s with seq := growS s.seq }
  let s2 := { s1 with ids := s1.ids + 1, sent := trimS (s1.sent ++ [s1.now]) }
  let s3 := s2.send 0 ⟨x.ttl, 1, 0, (lget s2.ls x.dest).isNone, s2.ids, x.dest, numT s2.ls x.dest, s2.self, s2.seq, 0, [], []⟩
  s3.remember ⟨s3.self, s3.ids⟩
def Nd.ask (s : Nd) (k : Nat) (x : Sr) : Nd :=
  if s.now < s.silent then ((s.setOut k false).drop 8).arm x.name 1000 else
  if 5 ≤ busyN s.now s.sent then ((s.setOut k false).drop 9).arm x.name 1000 else
  ((s.setOut k true).ask1 x).arm x.name (askWait x)
def Sr.further (x : Sr) : Option Sr :=
  if x.ttl < 5 then some { x with ttl := x.ttl + 2 } else
  if x.ttl < 8 then some { x with ttl := 8 } else
  if x.retries < 2 then some { x with retries := x.retries + 1 } else none
def Nd.drops (s : Nd) (n : Nat) (k : Int) : Nd := { s with out := { s.out with dropped := s.out.dropped ++ List.replicate n k } }
def Nd.again (s : Nd) (k : Nat) (x : Sr) : Nd :=
  match lookT s.ls x.dest s.now with
  | some _ => s.flush x.dest
  | none => if x.out = true then match x.further with
    | some y => Nd.ask { s with srs := s.srs.set k y } k y
    | none => ((s.drops (s.texts x.dest).length 5).unwait x.dest).stop k
    else s.ask k x
def Nd.rep (s : Nd) (src : UInt32) (p : Pk) : Nd :=
  if p.dest = s.self then s.drop 1 else
  let u := updT s.self s.ls (Ln.learned p.dest p.destSeq (hop1 p) src (s.now + p.life.toUInt64))
  let s1 := { s with ls := u.2 }
  if u.1 = 4 then s1.drop 2 else
  if p.from_ = s1.self then
    let s2 := if (lookT s1.ls p.dest s1.now).isSome then s1.flush p.dest else s1
    if u.1 = 3 then s2.drop 7 else s2
  else match lookT s1.ls p.from_ s1.now with
  | none => if p.ttl = 1 then s1.drop 4 else s1.drop 3
  | some b => if p.ttl = 1 then s1.drop 4 else { s1.send b.next { p with ttl := p.ttl - 1, hops := hop1 p } with ls := useT (befT (befT s1.ls p.dest b.next) p.from_ src) p.from_ s1.soon }
def Nd.handle (s : Nd) (src : UInt32) (p : Pk) : Nd :=
  if p.kind = 1 then s.req src p else if p.kind = 2 then s.rep src p else if p.kind = 3 then s.los src p else s.dat src p
def Nd.rcv (s : Nd) (now : UInt64) (src : UInt32) (f : Str) : Nd := match Pk.dec f with
  | none => s.rcvQ now src f
  | some p => if src = 0 ∨ src = s.self ∨ now < s.silent then s.rcvQ now src f else s.handle src p
def Nd.newSr (s : Nd) (dest : UInt32) : Nd := { s with names := s.names + 1, srs := s.srs ++ [⟨dest, 1, 0, false, s.names + 1⟩] }
def Nd.sendT (s : Nd) (dest : UInt32) (text : Str) : Nd :=
  if (lookT s.ls dest s.now).isSome then s.hand dest text else
  let s1 := if (s.texts dest).length = 4 then Nd.drop { s with wait := mset s.wait dest ((s.texts dest).drop 1) } 6 else s
  let s2 := { s1 with wait := mset s1.wait dest (s1.texts dest ++ [text]) }
  match srFind s2.srs dest with
  | some _ => s2
  | none => Nd.ask (s2.newSr dest) s2.srs.length ⟨dest, 1, 0, false, s2.names + 1⟩
def Nd.step (s : Nd) (now : UInt64) : Option Nd := match bestN s.clk now s.clk.length with
  | none => none
  | some i =>
    let s1 := { s with clk := s.clk.eraseIdx i }
    match nmFind s1.srs (at' s.clk i).what with
    | some k => match s1.srs[k]? with
      | some x => some (s1.again k x)
      | none => some s1
    | none => some s1
def Nd.ticks : Nat → Nd → UInt64 → Nd
  | 0, s, _ => s
  | f + 1, s, now => match s.step now with
    | some t => t.ticks f now
    | none => s
end

section
open Go.RowKit
def sCut (v : Value) (k : Nat) : Value := match v with
  | .slice A m c => .slice A (min k m) (min k m)
  | v => v
section
variable {P : Program} {n : Frm} {w0 : World} {E : Env} {D : List Deferred} {H F : HProp} {ops : Array Oper} {l' : List Oper} {Q : Exit → St → Prop} {α : Type} {e : TypeId} {size : Nat} {f : α → List Value} {v u : Value} {l ys : List α}
variable {d : Option Tmp} {ty : TypeId} {pos : String} {after : Array Edge} {gu : Option (Nat × Bool)} {x y z : Operand}
theorem Q_sliceR_hm {t e2 : TypeId} {q q2 : IntKind} {i i2 : Int} {k : Nat} (hx : E.ev x = some v) (hy : E.ev y = some (.int q i)) (hz : E.ev z = some (.int q2 i2)) (hii : i2 = i) (hl : Rdr w0 H v α size f l) (ht : Und P t (.slice e2)) (hs2 : Siz P e2 size) (hi : AsNat i k) (hk : k ≤ l.length) :
    OpQ P n w0 ⟨d, .slice t x none (some y) (some z), ty, pos, after, gu⟩ E H (sCut v k) := fun a w s hs => by
  subst hii
  obtain ⟨A, c, rfl, h1, h2⟩ := (hl.at_ w hs).form
  obtain ⟨i0, hi0, hi1⟩ := Option.map_eq_some_iff.1 hs2.eq
  obtain rfl := hi.eq
  have hel : P.elem t = e2 := by simp [Program.elem, ht.eq]
  have ht' : P.underlying t = some (.slice (P.elem t)) := by rw [ht.eq, hel]
  have hr := run_slice_hm (P := P) (w := w) t A l.length c ht' q q2 (k : Int) (k : Int) (by omega) (by omega) (by omega)
  have hmin : min k l.length = k := by omega
  have hz' : (sizeOf e2).run P w = .ok size w := by simp [sizeOf, typeInfo, hi0, hi1]
  rw [hel, hz'] at hr
  have hA : (if k = 0 then A else A.map (·.add (0 * size))) = A := by
    split
    · rfl
    · cases A with
      | none => rfl
      | some a => simp; unfold Addr.add; cases a; simp
  simp only [execOp, s.ev hx, s.ev hy, s.ev hz, Option.map_some, Option.map_none, run_sliceAt_slice w t _ _ _ _ ht', Sem.run_bind, hr, Result.andThen_ok, Sem.run_pure, Int.toNat_natCast, sCut, hmin, sliced, hA, Nat.sub_zero]
theorem Ent.cut (k : Nat) (hk : k ≤ l.length) [h : RowsOf H v α e size f l F] [hf : FixLen f size] : Ent H (rows e size f (sCut v k) (l.take k) * F) := by
  rw [h.eq]
  refine Ent.star (fun x hx => ?_) (Ent.refl _)
  obtain ⟨hlen, hx⟩ := hx
  have hll : ∀ m : List α, (m.flatMap f).length = m.length * size := by
    intro m
    induction m with
    | nil => simp
    | cons a m ih => simp [ih, hf.eq, Nat.succ_mul]; omega
  refine ⟨x, ⟨hll _, ?_⟩, fun _ _ e => e⟩
  have hkl : (l.take k).length = k := by simp; omega
  rcases hx with ⟨A, rfl, hn, hk0⟩ | ⟨g, off, cap, cur, fr, rfl, h1, h2, h3, h4, h5, h6⟩
  · refine .inl ⟨A, by simp [sCut, hn], by omega, hk0⟩
  · have hle : k * size ≤ cap * size := Nat.mul_le_mul_right _ (by omega)
    refine .inr ⟨g, off, k, cur, fr, by simp only [sCut, hkl, Nat.min_eq_left hk], by omega, by omega, by omega, ?_, ?_, h6⟩
    · rw [hkl]
      have e1 : ((l.take k).flatMap f) = (l.flatMap f).take (k * size) := by
        have : l.flatMap f = (l.take k).flatMap f ++ (l.drop k).flatMap f := by rw [← List.flatMap_append, List.take_append_drop]
        rw [this, List.take_left' (by rw [hll, hkl])]
      rw [e1, ← h4, List.take_take, Nat.min_eq_left (Nat.mul_le_mul_right _ hk)]
    · exact fun i a b => h5 i a (by omega)
theorem T_appendCut {t : TypeId} {bytes : Nat} (k j : Nat) (hk : k ≤ l.length) (hj : j ≤ l.length) (hu : u = sTail size v j) (hx : E.ev x = some (sCut v k)) (hy : E.ev y = some u) (hT : SlT P t e size bytes) (hf : FixLen f size) (h1 : ∀ z, ∀ c ∈ f z, c.oneCell' = true) (hn : l.length + l.length ≤ 1000000) (hby : bytes ≤ 1000) (hp : NeZero size) :
    OpT P n w0 ⟨d, .call ⟨.builtin .append, #[x, y], #[t, t]⟩, ty, pos, after, gu⟩ E (rows e size f v l) (fun v' : Value => v') (fun v' => rows e size f v' (l.take k ++ l.drop j)) := fun G a w K Q s hs hK => by
  subst hu
  have hsrc : Src P w size (l.drop j).length (sTail size v j) ((l.drop j).flatMap f) := src_of_rows ((rdr_tail' (w0 := w0) (H := rows e size f v l * G) (v := v) (f := f) (l := l) j).at_ w hs) hf.eq
  have hs2 : Sat w0 w (rows e size f (sCut v k) (l.take k) * G) := (Ent.cut (H := rows e size f v l * G) (F := G) k hk).sat hs
  have hlk : (l.take k).length ≤ l.length := by simp; omega
  have hlj : (l.drop j).length ≤ l.length := by simp
  refine wp_append_sl hT (.inl hT.ht) x y rfl hs2 (s.ev hx) (s.ev hy) hsrc (fun c hc => ?_) (by simp only [maxLen]; omega) ?_ fun v' w' hs' => hK v' w' ?_
  · obtain ⟨z, _, hz⟩ := List.mem_flatMap.1 hc; exact h1 z c hz
  · have : ((l.take k).length + (l.drop j).length) * bytes ≤ 1000000 * 1000 := Nat.mul_le_mul (by omega) hby
    omega
  · unfold rows
    rw [List.length_append, List.flatMap_append]
    exact hs'
theorem H_appendCut {t : TypeId} {bytes : Nat} (k j : Nat) (hx : E.ev x = some (sCut v k)) (hy : E.ev y = some (sTail size v j)) (hl : RowsOf H v α e size f l F) (hk : k ≤ l.length) (hj : j ≤ l.length) (hT : SlTC P t e size bytes) (hf : FixLen f size) (h1 : ∀ z, ∀ c ∈ f z, c.oneCell' = true) (hn : l.length + l.length ≤ 1000000) (hby : Nat.ble bytes 1000 = true) (hp : NeZero size) :
    OpH P n w0 ⟨d, .call ⟨.builtin .append, #[x, y], #[t, t]⟩, ty, pos, after, gu⟩ E H (fun v' : Value => v') (fun v' => rows e size f v' (l.take k ++ l.drop j) * F) := OpH.mk' (T_appendCut k j hk hj rfl hx hy hT.out hf h1 hn (Nat.le_of_ble_eq_true hby) hp) hl.eq
end
end

section
open Go.RowKit
instance eqlNilN {P : Program} {t e : TypeId} [h : Und P t (.pointer e)] : BinV P .eql t (.pointer none) (.pointer none) (.bool true) := ⟨fun w => by
  have hp : P.pointee t = e := by simp [Program.pointee, h.eq]
  exact run_eql_pointer_nil (w := w) t none (by rw [hp]; exact h.eq), fun w _ _ => by rfl⟩
instance neqNilN {P : Program} {t e : TypeId} [h : Und P t (.pointer e)] : BinV P .neq t (.pointer none) (.pointer none) (.bool false) := ⟨fun w => by
  have hp : P.pointee t = e := by simp [Program.pointee, h.eq]
  exact run_neq_pointer_nil (w := w) t none (by rw [hp]; exact h.eq), fun w _ _ => by rfl⟩
section
variable {P : Program} {n : Frm} {w0 : World} {E : Env} {D : List Deferred} {H F F1 F2 : HProp} {Q : Exit → St → Prop} {l l' : List Oper}
theorem WS_drawR1 {id : Nat} (t : Nat) (idx : List Nat) {g off : Nat} {bt : TypeId} {cs : List Value} (hs : statD P l idx (fun _ => false) 1000 = true) (hl : permL l idx = some l') (hx : E.get t = some (ptr g off)) (hR : LimbB H g bt cs F) (h : DL P n w0 l.toArray Q D (cel g bt cs) emp (fun _ => false) 1000 0 false l' E F) : WS P n w0 (.region id l.toArray true) Q ⟨E, D, H⟩ :=
  WS_draw idx l' (cel g bt cs) emp F _ 1000 hs (by rw [emp_star]; exact hR.eq) (permL_eq hl) h
theorem WS_drawR2 {id : Nat} (t t2 : Nat) (idx : List Nat) {g off g2 off2 : Nat} {bt bt2 : TypeId} {cs cs2 : List Value} (hs : statD P l idx (fun _ => false) 1000 = true) (hl : permL l idx = some l') (hx : E.get t = some (ptr g off)) (hx2 : E.get t2 = some (ptr g2 off2)) (hR : LimbB H g bt cs F1) (hR2 : LimbB F1 g2 bt2 cs2 F) (h : DL P n w0 l.toArray Q D (cel g bt cs * cel g2 bt2 cs2) emp (fun _ => false) 1000 0 false l' E F) : WS P n w0 (.region id l.toArray true) Q ⟨E, D, H⟩ :=
  WS_draw idx l' (cel g bt cs * cel g2 bt2 cs2) emp F _ 1000 hs (by rw [emp_star, hR.eq, hR2.eq, star_assoc]) (permL_eq hl) h
theorem WS_drawR3 {id : Nat} (t t2 t3 : Nat) (idx : List Nat) {g off g2 off2 g3 off3 : Nat} {bt bt2 bt3 : TypeId} {cs cs2 cs3 : List Value} (hs : statD P l idx (fun _ => false) 1000 = true) (hl : permL l idx = some l') (hx : E.get t = some (ptr g off)) (hx2 : E.get t2 = some (ptr g2 off2)) (hx3 : E.get t3 = some (ptr g3 off3)) (hR : LimbB H g bt cs F1) (hR2 : LimbB F1 g2 bt2 cs2 F2) (hR3 : LimbB F2 g3 bt3 cs3 F) (h : DL P n w0 l.toArray Q D (cel g bt cs * (cel g2 bt2 cs2 * cel g3 bt3 cs3)) emp (fun _ => false) 1000 0 false l' E F) : WS P n w0 (.region id l.toArray true) Q ⟨E, D, H⟩ :=
  WS_draw idx l' (cel g bt cs * (cel g2 bt2 cs2 * cel g3 bt3 cs3)) emp F _ 1000 hs (by rw [emp_star, hR.eq, hR2.eq, hR3.eq, star_assoc, star_assoc]) (permL_eq hl) h
theorem SpecQ.of {f : FuncId} {args : List Value} {X : HProp} {v : Value} (h : Spec P w0 f args X (fun _ : Unit => v) (fun _ => X)) (o : Own H X F) : SpecQ P w0 f args H v := fun w hs => by
  refine (h F w (hs.cast o.eq)).mono ?_
  rintro e w' ⟨_, he, hs'⟩
  exact ⟨he, hs'.cast o.eq.symm⟩
theorem DL_callS {ops : Array Oper} {R L F0 X : HProp} {f : FuncId} {args : List Value} {v : Value} {d : Nat} {xs : List Operand} {ts : Array TypeId} {ty : TypeId} {pos : String} {after : Array Edge} {B : Nat → Bool} {k cp : Nat} {l : List Oper} (hf : IsFun P f) (hargs : E.evs xs = some args) (spec : Spec P w0 f args X (fun _ : Unit => v) (fun _ => X)) (ho : Own L X F0) (hd : Nat.blt d n.tmps = true)
    (h : DL P n w0 ops Q D R L B cp (k + 1) false l ((d, v) :: E) F) : DL P n w0 ops Q D R L B cp k false (⟨some d, .call ⟨.value (.func f), xs.toArray, ts⟩, ty, pos, after, none⟩ :: l) E F :=
  DL_tq rfl rfl hd (fun F' => TQ_call hf hargs (SpecQ.of (F := R * (F0 * F')) spec ⟨by show R * (L * F') = _; rw [ho.eq, star_assoc, star_left_comm]⟩)) h
end
section
variable {P : Program} {n : Frm} {w0 : World} {E : Env} {D : List Deferred} {H F : HProp} {d : Option Tmp} {t ty : TypeId} {pos : String} {after : Array Edge} {gu : Option (Nat × Bool)} {x y : Operand} {r kt et : Nat} {v u : Value} {κ ν : Type} [DecidableEq κ] {fk : κ → Value} {fv : ν → Value} {m : List (κ × ν)} {k : κ}
theorem Q_lookupE {z : Value} {zs : List Value} (hx : E.ev x = some (.map (some r))) (hy : E.ev y = some v) (hl : MapOf H r κ ν fk fv m F) (hkk : AsKey fk v k) (hm : MapT P t kt et) (hz : Zero P et z zs) (hk : KeyT P kt fk) (hu : optV fv z (mget m k) = u) : OpQ P n w0 ⟨d, .lookup t x y false, ty, pos, after, gu⟩ E H u := hu ▸ Q_lookup hx hy hl hkk hm hz hk
end
end

section
open Go.RowKit
theorem rq_check (empty : Bool) (x y : Int) (w : World) : (Instr.checkKey empty 10000 269 (.agg #[.int .u32 x, .int .u32 y])).run Tryz.prog w = .ok () w := by
  have u4 := Tryz.underlying26
  have hS := Tryz.underlying269
  have c2 := check_u empty 9998
  rw [show (10000 : Nat) = 9999 + 1 from rfl]
  unfold Instr.checkKey
  go_simp
theorem rq_eql (x y x' y' : Int) (w : World) :
    (Op.equal 269 (.agg #[.int .u32 x, .int .u32 y]) (.agg #[.int .u32 x', .int .u32 y'])).run Tryz.prog w = .ok (x == x' && y == y') w := by
  have u4 := Tryz.underlying26
  have hS : Tryz.prog.underlying 269 = some (.struct (Tryz.prog.fieldsOf 269)) := by kernel_rfl
  have hp : Tryz.prog.stoodInHeld 269 = false := by kernel_rfl
  rw [show Op.equal 269 = Op.equalIn (9999 + 1) 269 from rfl, run_equalIn_agg w 9999 269 _ _ hS hp]
  simp only [Program.fieldsOf, Tryz.underlying269]
  by_cases h1 : x = x' <;> by_cases h2 : y = y' <;> go_simp
instance : KeyT Tryz.prog 269 rqV := keyT_agg (fs := Tryz.prog.fieldsOf 269) (by kernel_rfl) (fun _ a b w => by
    have h := rq_eql (a.src.toNat : Int) (a.id.toNat : Int) (b.src.toNat : Int) (b.id.toNat : Int) w
    have e : (((a.src.toNat : Int) == (b.src.toNat : Int)) && ((a.id.toNat : Int) == (b.id.toNat : Int))) = decide (a = b) := by
      rw [Bool.eq_iff_iff]
      simp only [Bool.and_eq_true, beq_iff_eq, decide_eq_true_eq]
      constructor
      · intro ⟨h1, h2⟩
        have e1 : a.src = b.src := UInt32.toNat_inj.1 (by omega)
        have e2 : a.id = b.id := UInt32.toNat_inj.1 (by omega)
        cases a; cases b; simp_all
      · rintro rfl; exact ⟨rfl, rfl⟩
    rw [e] at h
    exact h) (fun empty k w => rq_check empty _ _ w) (fun k => by
    show Instr.sameBits (9999 + 1) (.agg #[u32 k.src, u32 k.id]) (.agg #[u32 k.src, u32 k.id]) = true
    simp [Instr.sameBits, u32])
instance (v1 v2 : Value) (a b : UInt32) [h1 : AsU32 v1 a] [h2 : AsU32 v2 b] : AsKey rqV (.agg #[v1, v2]) ⟨a, b⟩ := ⟨by rw [h1.eq, h2.eq]; rfl⟩
instance (k : Rq) : AsKey rqV (.agg (rqC k).toArray) k := ⟨rfl⟩
end

section
open Go.RowKit
theorem Spec.toA {P : Program} {w0 : World} {f : FuncId} {args : List Value} {pre : HProp} {α : Type} {res : α → Value} {gn : Nat} {s : Nd} {h : α → NH} (hs : Spec P w0 f args pre res (fun x => nodP gn s (h x))) : Spec P w0 f args pre res (fun _ => nodA gn s) := fun G w hw => (hs G w hw).mono fun e w' ⟨x, he, hx⟩ => ⟨x, he, (Ent.nod (h x) (Ent.refl _)).sat hx⟩
theorem Spec.toAX {P : Program} {w0 : World} {f : FuncId} {args : List Value} {pre : HProp} {α : Type} {res : α → Value} {gn : Nat} {s : Nd} {h : α → NH} {X : α → HProp} (hs : Spec P w0 f args pre res (fun x => nodP gn s (h x) * X x)) : Spec P w0 f args pre res (fun x => nodA gn s * X x) := fun G w hw => (hs G w hw).mono fun e w' ⟨x, he, hx⟩ => ⟨x, he, by
  have h1 := (Ent.nod (g := gn) (s := s) (F := X x * G) (h x) (Ent.of_eq (star_assoc _ _ _))).sat hx
  exact h1.cast (star_assoc _ _ _).symm⟩
structure Nd.Fit (s : Nd) (k : Nat) : Prop where
  frames : s.out.frames.length + k ≤ 800000
  came : s.out.came.length + k ≤ 800000
  dropped : s.out.dropped.length + k ≤ 800000
  recs : s.recs.length + 9 * k ≤ 400000
  journal : s.out.journal.length + 120 * k ≤ 800000
theorem Nd.Fit.le {s : Nd} {k m : Nat} (h : s.Fit k) (hm : m ≤ k) : s.Fit m := ⟨by have := h.frames; omega, by have := h.came; omega, by have := h.dropped; omega, by have := h.recs; omega, by have := h.journal; omega⟩
theorem Nd.Fit.send {s : Nd} {k : Nat} (h : s.Fit (k + 1)) (to : UInt32) (p : Pk) : (s.send to p).Fit k := by
  obtain ⟨a, b, c, d, e⟩ := h
  constructor <;> simp only [Nd.send, List.length_append, List.length_cons, List.length_nil] <;> omega
theorem Nd.Fit.drop {s : Nd} {k : Nat} (h : s.Fit (k + 1)) (r : Int) : (s.drop r).Fit k := by
  obtain ⟨a, b, c, d, e⟩ := h
  constructor <;> simp only [Nd.drop, List.length_append, List.length_cons, List.length_nil] <;> omega
theorem Nd.Fit.ls {s : Nd} {k : Nat} (h : s.Fit k) (l : List Ln) : Nd.Fit { s with ls := l } k := ⟨h.frames, h.came, h.dropped, h.recs, h.journal⟩
variable (w0 : World)
theorem drop_A (gn : Nat) (s : Nd) (h : NH) (k : Int) (hf : s.Fit 1) : Spec Tryz.prog w0 66 [ptr gn 0, .int .i64 k] (nodP gn s h) (fun _ : Value => .tuple #[]) (fun _ => nodA gn (s.drop k)) := (ndrop_spec w0 gn s h k (by have := hf.dropped; omega)).toA
theorem send_A (gn : Nat) (s : Nd) (h : NH) (to : UInt32) (p : Pk) (hp : p.Ok) (v : Value) (hv : v.oneCell' = true) (X : HProp) (hX : Rdr w0 X v (UInt32 × UInt32) 2 lostC p.lost) (hf : s.Fit 1) : Spec Tryz.prog w0 117 [ptr gn 0, u32 to, p.val v] (nodP gn s h * X) (fun _ : Value => .tuple #[]) (fun _ => nodA gn (s.send to p) * X) := (nsend_spec w0 gn s h to p hp v hv X (hX := hX) (by have := hf.frames; omega)).toAX
theorem send_A0 (gn : Nat) (s : Nd) (h : NH) (to : UInt32) (p : Pk) (hp : p.Ok) (hl : p.lost = []) (hf : s.Fit 1) : Spec Tryz.prog w0 117 [ptr gn 0, u32 to, p.val (.slice none 0 0)] (nodP gn s h) (fun _ : Value => .tuple #[]) (fun _ => nodA gn (s.send to p)) := by
  have := send_A w0 gn s h to p hp (.slice none 0 0) rfl emp (by rw [hl]; exact rdr_nil _ _ _) hf
  simpa only [star_emp] using this
theorem send_E0 (gn : Nat) (s : Nd) (h : NH) (to : UInt32) (p : Pk) (hp : p.Ok) (hl : p.lost = []) (hf : s.Fit 1) : Spec Tryz.prog w0 117 [ptr gn 0, u32 to, p.val (.slice none 0 0)] (nodP gn s h) (fun _ : Value => .tuple #[]) (fun vf => nodP gn (s.send to p) { h with vf := vf }) := by
  have := nsend_spec w0 gn s h to p hp (.slice none 0 0) rfl emp (hX := by rw [hl]; exact rdr_nil _ _ _) (by have := hf.frames; omega)
  simpa only [star_emp] using this
theorem tell_A (gn : Nat) (s : Nd) (h : NH) (to dest seq : UInt32) (hf : s.Fit 1) : Spec Tryz.prog w0 68 [ptr gn 0, u32 to, u32 dest, u32 seq] (nodP gn s h) (fun _ : Value => .tuple #[]) (fun _ => nodA gn (s.tell to dest seq)) := (tell_spec w0 gn s h to dest seq (by have := hf.frames; omega)).toA
attribute [local irreducible] WS LS OpQ OpT OpH OpTQ Spec SpecQ cel
set_option maxRecDepth 100000 in
set_option maxHeartbeats 8000000 in
theorem soon_spec (gn : Nat) (s : Nd) (h : NH) : Spec Tryz.prog w0 172 [ptr gn 0] (cel gn 159 (nodC 1 s h s.out)) (fun _ : Unit => u64 s.soon) (fun _ => cel gn 159 (nodC 1 s h s.out)) := by
  refine Spec.enter Tryz.func172 rfl Tryz.ntmps172 rfl fun G => ?_
  simp only [argE, nodC, Nd.soon]
  repeat' (first | (refine WS_seqK ?_; intro K hK) | (refine hK _ ?_; clear hK K) | refine stZ ?_ | ((refine' LQ ?zh rfl ?_); case zh => intro F'; first | exact Q_move rfl | exact Q_assign rfl | exact Q_nilCheck rfl | exact Q_fieldAddr rfl iI rfl | exact Q_load rfl iI iI rfl) | ((refine' LQ ?zh rfl ?_); case zh => intro F'; exact Q_bin rfl rfl iI))
  exact ret_tmp (.inl rfl) rfl rfl ⟨(), rfl, finE⟩
end

end Go.Proofs.YtapoehkdnglahabGreat

