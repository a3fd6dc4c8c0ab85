/- The walks of one node's check, by the engine. -/
import Derived.Test.YtejkmomfpidnbaaTreeE2
import Derived.Test.YtejkmomfpidnbaaAttrE4
namespace Go.Proofs.Ytejkmomfpidnbaa
open Go.RowKit
set_option linter.unusedSimpArgs false
set_option linter.unusedVariables false
theorem size_zero {a : ByteArray} : a = ⟨#[]⟩ ↔ a.size = 0 := by
  constructor
  · intro h; subst h; rfl
  · intro h; apply str_ext; rw [Lib.toList_data, Lib.toList_data]
    apply List.eq_nil_of_length_eq_zero
    rw [Array.length_toList]; exact h
theorem q_sne0 {B : Base} {N : Nat} {F : List (Nat × Value)} {V : View} {L : List Box} {d : Option Tmp} {ty t ty2 : TypeId} {pos : String} {af : Array Edge} {gd : Option (Nat × Bool)} {x : Operand} {a : ByteArray} (hx : evF F x = some (.string a)) : QP Try.prog B N V L ⟨d, .binOp .neq t x (.const (.string ⟨#[]⟩)) ty2, ty, pos, af, gd⟩ F (.bool (decide (¬ a.size = 0))) := by
  have := q_sneq (P := Try.prog) (B := B) (N := N) (V := V) (L := L) (d := d) (ty := ty) (t := t) (ty2 := ty2) (pos := pos) (af := af) (gd := gd) (F := F) (x := x) (y := .const (.string ⟨#[]⟩)) (b := ⟨#[]⟩) hx rfl
  have e : decide (¬ a = ⟨#[]⟩) = decide (¬ a.size = 0) := decide_eq_decide.2 (not_congr size_zero)
  rw [e] at this; exact this
attribute [local irreducible] AtQ GoC GoL GoW QO QP Fn RV OwnAt CellsFrom VLe SrcIs errV
set_option maxRecDepth 100000
theorem tisID_c (V : View) (x : Int) : Fn Try.prog 121 [.int .i64 x] V fun v _ => v = .bool (decide (0 ≤ x ∧ x ≤ 65535)) := by
  (refine fn_enter Try.func121 rfl Try.ntmps121 rfl ?_; intro w0)
  repeat' (first | (refine k_gw ?_; (first | (refine k_assign ?_; (first | refine gw_q rfl (q_assign rfl) ?_)) | (refine k_move ?_; (first | refine gw_q rfl (q_move rfl) ?_)) | (refine k_binOp ?_; (first | refine gw_q rfl (q_geq rfl rfl) ?_ | refine gw_q rfl (q_leq rfl rfl) ?_)) | (refine k_pick ?_; (first | refine gw_q rfl (q_pick_t rfl rfl) ?_ | refine gw_q rfl (q_pick_f rfl rfl) ?_)))) | (refine k_gl ?_; (first | refine gl_nil rfl ?_ | refine gl_go rfl rfl ?_ | refine gl_yes rfl rfl rfl rfl rfl ?_ | refine gl_no rfl rfl rfl rfl rfl rfl rfl ?_ | refine gl_nou rfl rfl rfl rfl rfl rfl ?_ | (refine gl_split_p rfl rfl rfl ?_ ?_ <;> intro hq <;> try (exfalso; first | exact hq rfl | omega)) | (refine gl_split_b rfl rfl rfl ?_ ?_ <;> intro hq))) | (refine k_gc ?_; (first | refine gc_seq ?_ | refine gc_region ?_ | refine gc_cond_t rfl ?_ | refine gc_cond_f rfl ?_ | (refine gc_cond_p rfl ?_ ?_ <;> intro hq <;> try (exfalso; first | exact hq rfl | omega)) | (refine gc_cond_b rfl ?_ ?_ <;> intro hq) | refine gc_block ?_ | refine gc_exit ?_ | refine gc_ret ?_ | refine gc_skip ?_)) | (refine k_at ?_; (first | refine at_seq ?_ | refine at_then_ret ?_ | refine at_then_exit ?_ | refine at_thn_ret ?_ | refine at_thn_exit ?_ | refine at_block_normal ?_ | refine at_block_ret ?_ | refine at_block_hit ?_ | refine at_block_miss rfl ?_)))
  all_goals (refine at_ret1 Try.results121 (rv_tmp rfl) ?_)
  all_goals first | rfl | (refine congrArg Value.bool ?_; first | exact (decide_eq_true (by omega)).symm | exact (decide_eq_false (by omega)).symm | exact decide_eq_decide.2 (by omega))
theorem oneF_1 {h : Hd} {many upper root : Bool} (a : ¬ (h.kind = 1 ∨ h.kind = 2 ∨ h.kind = 3)) : oneF h many upper root = 3 := by unfold oneF; rw [if_pos a]
theorem oneF_2 {h : Hd} {many upper root : Bool} (a : h.kind = 1 ∨ h.kind = 2 ∨ h.kind = 3) (b : ¬ ((0 ≤ h.mode ∧ h.mode ≤ 4095) ∧ (0 ≤ h.user ∧ h.user ≤ 65535) ∧ (0 ≤ h.group ∧ h.group ≤ 65535))) : oneF h many upper root = 1 := by unfold oneF; rw [if_neg (not_not_intro a), if_pos b]
theorem oneF_3 {h : Hd} {many upper root : Bool} (a : h.kind = 1 ∨ h.kind = 2 ∨ h.kind = 3) (b : (0 ≤ h.mode ∧ h.mode ≤ 4095) ∧ (0 ≤ h.user ∧ h.user ≤ 65535) ∧ (0 ≤ h.group ∧ h.group ≤ 65535)) (c : ¬ attrF h.attrs = 0) : oneF h many upper root = attrF h.attrs := by unfold oneF; rw [if_neg (not_not_intro a), if_neg (not_not_intro b), if_pos c]
theorem oneF_4 {h : Hd} {many upper root : Bool} (a : h.kind = 1 ∨ h.kind = 2 ∨ h.kind = 3) (b : (0 ≤ h.mode ∧ h.mode ≤ 4095) ∧ (0 ≤ h.user ∧ h.user ≤ 65535) ∧ (0 ≤ h.group ∧ h.group ≤ 65535)) (c : attrF h.attrs = 0) (d : 200 < h.data.size) : oneF h many upper root = 1 := by unfold oneF; rw [if_neg (not_not_intro a), if_neg (not_not_intro b), if_neg (not_not_intro c), if_pos d]
def shapeN (h : Hd) (many upper root : Bool) : Prop := (h.kind = 3 ∧ (upper = false ∨ 0 < h.mode + h.user + h.group + h.attrs.length)) ∨ (¬ h.kind = 1 ∧ 0 < h.data.size) ∨ (¬ h.kind = 2 ∧ (many = true ∨ h.opq = true)) ∨ (h.opq = true ∧ (upper = false ∨ root = true))
theorem oneF_5 {h : Hd} {many upper root : Bool} (a : h.kind = 1 ∨ h.kind = 2 ∨ h.kind = 3) (b : (0 ≤ h.mode ∧ h.mode ≤ 4095) ∧ (0 ≤ h.user ∧ h.user ≤ 65535) ∧ (0 ≤ h.group ∧ h.group ≤ 65535)) (c : attrF h.attrs = 0) (d : h.data.size ≤ 200) (e : shapeN h many upper root) : oneF h many upper root = 3 := by unfold oneF; rw [if_neg (not_not_intro a), if_neg (not_not_intro b), if_neg (not_not_intro c), if_neg (by omega)]; exact if_pos e
theorem oneF_6 {h : Hd} {many upper root : Bool} (a : h.kind = 1 ∨ h.kind = 2 ∨ h.kind = 3) (b : (0 ≤ h.mode ∧ h.mode ≤ 4095) ∧ (0 ≤ h.user ∧ h.user ≤ 65535) ∧ (0 ≤ h.group ∧ h.group ≤ 65535)) (c : attrF h.attrs = 0) (d : h.data.size ≤ 200) (e : ¬ shapeN h many upper root) : oneF h many upper root = 0 := by unfold oneF; rw [if_neg (not_not_intro a), if_neg (not_not_intro b), if_neg (not_not_intro c), if_neg (by omega)]; exact if_neg e
set_option maxRecDepth 100000 in
set_option maxHeartbeats 4000000 in
theorem one_c (V : View) (x : LN) (hx : NodeV V x) (upper root : Bool) : Fn Try.prog 159 [lnV x, .bool upper, .bool root] V fun v _ => v = errV (oneF x.h (decide (0 < x.nk)) upper root) := by
  obtain ⟨ha, hca, hd, hck, es, hk, hks⟩ := hx.inv
  have hatt := ACheck_c V x.A x.na x.ca x.h.attrs ha
  have hab := attrF_bd x.h.attrs
  have hal : x.h.attrs.length = x.na := ha.1.1
  have hmk := hk.max
  have hma := ha.1.max
  have hmd : x.h.data.size ≤ 9223372036854775807 := by unfold maxLen at hd; omega
  have h4 : ¬ attrF x.h.attrs = 0 ∨ x.na ≤ 4 := by
    rcases Nat.lt_or_ge 4 x.na with h | h
    · left; unfold attrF; rw [if_pos (by omega)]; decide
    · right; exact h
  clear hks hk ha hx
  (refine fn_enter Try.func159 rfl Try.ntmps159 rfl ?_; intro w0)
  repeat' (first | (refine k_gw ?_; (first | (refine k_box ?_; (first | (refine gw_box rfl rfl rfl rfl ?_; intro γ))) | (refine k_assign ?_; (first | refine gw_q rfl (q_assign rfl) ?_)) | (refine k_fieldAddr ?_; (first | refine gw_q rfl (q_fieldAddr fld_96_0 rfl) ?_ | refine gw_q rfl (q_fieldAddr fld_96_1 rfl) ?_ | refine gw_q rfl (q_fieldAddr fld_96_2 rfl) ?_ | refine gw_q rfl (q_fieldAddr fld_96_3 rfl) ?_ | refine gw_q rfl (q_fieldAddr fld_96_5 rfl) ?_ | refine gw_q rfl (q_fieldAddr fld_96_6 rfl) ?_ | refine gw_q rfl (q_fieldAddr fld_96_7 rfl) ?_ | refine gw_q rfl (q_fieldAddr fld_96_4 rfl) ?_)) | (refine k_load ?_; (first | refine gw_q rfl (q_load_o one_3 rfl (by first | ((repeat (first | exact own_here | apply own_next | apply own_skip)); done) | fail) (by exact rfl)) ?_ | refine gw_q rfl (q_load_o one_79 rfl (by first | ((repeat (first | exact own_here | apply own_next | apply own_skip)); done) | fail) (by exact rfl)) ?_ | refine gw_q rfl (q_load_o one_9 rfl (by first | ((repeat (first | exact own_here | apply own_next | apply own_skip)); done) | fail) (by exact rfl)) ?_ | refine gw_q rfl (q_load_o one_94 rfl (by first | ((repeat (first | exact own_here | apply own_next | apply own_skip)); done) | fail) (by exact rfl)) ?_ | refine gw_q rfl (q_load_o one_4 rfl (by first | ((repeat (first | exact own_here | apply own_next | apply own_skip)); done) | fail) (by exact rfl)) ?_)) | (refine k_binOp ?_; (first | refine gw_q rfl (q_eneq rfl) ?_ | refine gw_q rfl (q_sne0 rfl) ?_ | refine gw_q rfl (q_eql rfl rfl) ?_ | refine gw_q rfl (q_neq rfl rfl) ?_ | refine gw_q rfl (q_lss rfl rfl) ?_ | refine gw_q rfl (q_gtr rfl rfl) ?_ | refine gw_q rfl (q_add rfl rfl (by omega)) ?_)) | (refine k_move ?_; (first | refine gw_q rfl (q_move rfl) ?_)) | (refine k_pick ?_; (first | refine gw_q rfl (q_pick_t rfl rfl) ?_ | refine gw_q rfl (q_pick_f rfl rfl) ?_)) | (refine k_unOp ?_; (first | refine gw_q rfl (q_not_t rfl) ?_ | refine gw_q rfl (q_not_f rfl) ?_ | refine gw_q rfl (q_not_p rfl) ?_ | refine gw_q rfl (q_not_b rfl) ?_)) | (refine k_makeInterface ?_; (first | refine gw_q rfl (q_mkiface und_155 rfl rfl) ?_)) | (refine k_call ?_; (first | refine gw_q rfl (q_slen rfl und_9 rfl) ?_ | refine gw_q rfl (q_len rfl und_79 rfl) ?_ | refine gw_q rfl (q_len rfl und_94 rfl) ?_ | refine gw_q' rfl (q_call ⟨Try.call70⟩ rfl (hatt)) ?_)))) | (refine k_gl ?_; (first | refine gl_nil rfl ?_ | refine gl_go rfl rfl ?_ | refine gl_yes rfl rfl rfl rfl rfl ?_ | refine gl_no rfl rfl rfl rfl rfl rfl rfl ?_ | refine gl_nou rfl rfl rfl rfl rfl rfl ?_ | (refine gl_split_p rfl rfl rfl ?_ ?_ <;> intro hq <;> try (exfalso; first | exact hq rfl | omega)) | (refine gl_split_b rfl rfl rfl ?_ ?_ <;> intro hq))) | (refine k_gc ?_; (first | refine gc_seq ?_ | refine gc_region ?_ | refine gc_cond_t rfl ?_ | refine gc_cond_f rfl ?_ | (refine gc_cond_p rfl ?_ ?_ <;> intro hq <;> try (exfalso; first | exact hq rfl | omega)) | (refine gc_cond_b rfl ?_ ?_ <;> intro hq) | refine gc_block ?_ | refine gc_ret ?_ | refine gc_skip ?_)) | (refine k_at ?_; (first | refine at_seq ?_ | refine at_then_ret ?_ | refine at_then_exit ?_ | refine at_thn_ret ?_ | refine at_thn_exit ?_ | refine at_block_normal ?_ | refine at_block_ret ?_ | refine at_block_hit ?_ | refine at_block_miss rfl ?_)))
  all_goals (refine at_ret1 Try.results159 (rv_tmp rfl) ?_)
  all_goals first
    | (refine errV_is 3 (oneF_1 ?_); omega)
    | (refine errV_is 1 (oneF_2 ?_ ?_) <;> omega)
    | (refine congrArg errV (oneF_3 ?_ ?_ ?_).symm <;> omega)
    | (refine errV_is 1 (oneF_4 ?_ ?_ ?_ ?_) <;> omega)
    | (refine errV_is 3 (oneF_5 (h := x.h) (by omega) (by omega) (by omega) (by omega) ?_); (try simp only [Bool.not_eq_true', Bool.not_eq_false'] at *); first
        | exact .inl ⟨by omega, .inl (by assumption)⟩
        | exact .inl ⟨by omega, .inr (by omega)⟩
        | exact .inr (.inl ⟨by omega, by omega⟩)
        | exact .inr (.inr (.inl ⟨by omega, .inl (decide_eq_true (by omega))⟩))
        | exact .inr (.inr (.inl ⟨by omega, .inr (by assumption)⟩))
        | exact .inr (.inr (.inr ⟨by assumption, .inl (by assumption)⟩))
        | exact .inr (.inr (.inr ⟨by assumption, .inr (by assumption)⟩)))
    | (refine errV_nil (oneF_6 (h := x.h) (by omega) (by omega) (by omega) (by omega) ?_); (try simp only [Bool.not_eq_true', Bool.not_eq_false'] at *); unfold shapeN; rintro (⟨h1, h2 | h2⟩ | ⟨h1, h2⟩ | ⟨h1, h2 | h2⟩ | ⟨h1, h2 | h2⟩) <;> first | omega | (have h2 := of_decide_eq_true h2; omega) | simp_all)
set_option maxRecDepth 100000 in
set_option maxHeartbeats 4000000 in
theorem nodeFault_c (V : View) (x : LN) (hx : NodeV V x) (upper root : Bool) : Fn Try.prog 160 [lnV x, .bool upper, .bool root] V fun v _ => v = .int .i64 (oneF x.h (decide (0 < x.nk)) upper root) := by
  obtain ⟨ha, hca, hd, hck, es, hk, hks⟩ := hx.inv
  have hatt := AttrFault_c V x.A x.na x.ca x.h.attrs ha
  have hab := attrF_bd x.h.attrs
  have hal : x.h.attrs.length = x.na := ha.1.1
  have hmk := hk.max
  have hma := ha.1.max
  have hmd : x.h.data.size ≤ 9223372036854775807 := by unfold maxLen at hd; omega
  clear hks hk ha hx
  (refine fn_enter Try.func160 rfl Try.ntmps160 rfl ?_; intro w0)
  repeat' (first | (refine k_gw ?_; (first | (refine k_box ?_; (first | (refine gw_box rfl rfl rfl rfl ?_; intro γ))) | (refine k_assign ?_; (first | refine gw_q rfl (q_assign rfl) ?_)) | (refine k_fieldAddr ?_; (first | refine gw_q rfl (q_fieldAddr fld_96_0 rfl) ?_ | refine gw_q rfl (q_fieldAddr fld_96_1 rfl) ?_ | refine gw_q rfl (q_fieldAddr fld_96_2 rfl) ?_ | refine gw_q rfl (q_fieldAddr fld_96_3 rfl) ?_ | refine gw_q rfl (q_fieldAddr fld_96_5 rfl) ?_ | refine gw_q rfl (q_fieldAddr fld_96_6 rfl) ?_ | refine gw_q rfl (q_fieldAddr fld_96_7 rfl) ?_ | refine gw_q rfl (q_fieldAddr fld_96_4 rfl) ?_)) | (refine k_load ?_; (first | refine gw_q rfl (q_load_o one_3 rfl (by first | ((repeat (first | exact own_here | apply own_next | apply own_skip)); done) | fail) (by exact rfl)) ?_ | refine gw_q rfl (q_load_o one_79 rfl (by first | ((repeat (first | exact own_here | apply own_next | apply own_skip)); done) | fail) (by exact rfl)) ?_ | refine gw_q rfl (q_load_o one_9 rfl (by first | ((repeat (first | exact own_here | apply own_next | apply own_skip)); done) | fail) (by exact rfl)) ?_ | refine gw_q rfl (q_load_o one_94 rfl (by first | ((repeat (first | exact own_here | apply own_next | apply own_skip)); done) | fail) (by exact rfl)) ?_ | refine gw_q rfl (q_load_o one_4 rfl (by first | ((repeat (first | exact own_here | apply own_next | apply own_skip)); done) | fail) (by exact rfl)) ?_)) | (refine k_binOp ?_; (first | refine gw_q rfl (q_eneq rfl) ?_ | refine gw_q rfl (q_lss rfl rfl) ?_ | refine gw_q rfl (q_gtr rfl rfl) ?_ | refine gw_q rfl (q_eql rfl rfl) ?_ | refine gw_q rfl (q_neq rfl rfl) ?_)) | (refine k_move ?_; (first | refine gw_q rfl (q_move rfl) ?_)) | (refine k_pick ?_; (first | refine gw_q rfl (q_pick_t rfl rfl) ?_ | refine gw_q rfl (q_pick_f rfl rfl) ?_)) | (refine k_call ?_; (first | refine gw_q rfl (q_slen rfl und_9 rfl) ?_ | refine gw_q rfl (q_len rfl und_79 rfl) ?_ | refine gw_q rfl (q_len rfl und_94 rfl) ?_ | refine gw_q' rfl (q_call ⟨Try.call71⟩ rfl (hatt)) ?_ | refine gw_q' rfl (q_call ⟨Try.call121⟩ rfl (tisID_c _ _)) ?_)) | (refine k_unOp ?_; (first | refine gw_q rfl (q_not_t rfl) ?_ | refine gw_q rfl (q_not_f rfl) ?_ | refine gw_q rfl (q_not_p rfl) ?_ | refine gw_q rfl (q_not_b rfl) ?_)))) | (refine k_gl ?_; (first | refine gl_nil rfl ?_ | refine gl_go rfl rfl ?_ | refine gl_yes rfl rfl rfl rfl rfl ?_ | refine gl_no rfl rfl rfl rfl rfl rfl rfl ?_ | refine gl_nou rfl rfl rfl rfl rfl rfl ?_ | (refine gl_split_p rfl rfl rfl ?_ ?_ <;> intro hq <;> try (exfalso; first | exact hq rfl | omega)) | (refine gl_split_b rfl rfl rfl ?_ ?_ <;> intro hq))) | (refine k_gc ?_; (first | refine gc_seq ?_ | refine gc_region ?_ | refine gc_cond_t rfl ?_ | refine gc_cond_f rfl ?_ | (refine gc_cond_p rfl ?_ ?_ <;> intro hq <;> try (exfalso; first | exact hq rfl | omega)) | (refine gc_cond_b rfl ?_ ?_ <;> intro hq) | refine gc_ret ?_ | refine gc_skip ?_)) | (refine k_at ?_; (first | refine at_seq ?_ | refine at_then_ret ?_ | refine at_then_exit ?_ | refine at_thn_ret ?_ | refine at_thn_exit ?_ | refine at_block_normal ?_ | refine at_block_ret ?_ | refine at_block_hit ?_ | refine at_block_miss rfl ?_)))
  all_goals (refine at_ret1 Try.results160 (rv_tmp rfl) ?_)
  all_goals first
    | (refine congrArg (Value.int .i64) (Eq.symm (oneF_1 ?_)); omega)
    | (refine congrArg (Value.int .i64) (Eq.symm (oneF_2 ?_ ?_)) <;> omega)
    | (refine congrArg (Value.int .i64) (oneF_3 ?_ ?_ ?_).symm <;> omega)
    | (refine congrArg (Value.int .i64) (Eq.symm (oneF_4 ?_ ?_ ?_ ?_)) <;> omega)
    | (refine congrArg (Value.int .i64) (Eq.symm (oneF_5 (h := x.h) (by omega) (by omega) (by omega) (by omega) ?_)); (try simp only [Bool.not_eq_true', Bool.not_eq_false'] at *); first
        | exact .inl ⟨by omega, .inl (by assumption)⟩
        | exact .inl ⟨by omega, .inr (by omega)⟩
        | exact .inr (.inl ⟨by omega, by omega⟩)
        | exact .inr (.inr (.inl ⟨by omega, .inl (decide_eq_true (by omega))⟩))
        | exact .inr (.inr (.inl ⟨by omega, .inr (by assumption)⟩))
        | exact .inr (.inr (.inr ⟨by assumption, .inl (by assumption)⟩))
        | exact .inr (.inr (.inr ⟨by assumption, .inr (by assumption)⟩)))
    | (refine congrArg (Value.int .i64) (Eq.symm (oneF_6 (h := x.h) (by omega) (by omega) (by omega) (by omega) ?_)); (try simp only [Bool.not_eq_true', Bool.not_eq_false'] at *); unfold shapeN; rintro (⟨h1, h2 | h2⟩ | ⟨h1, h2⟩ | ⟨h1, h2 | h2⟩ | ⟨h1, h2 | h2⟩) <;> first | omega | (have h2 := of_decide_eq_true h2; omega) | simp_all)
end Go.Proofs.Ytejkmomfpidnbaa
