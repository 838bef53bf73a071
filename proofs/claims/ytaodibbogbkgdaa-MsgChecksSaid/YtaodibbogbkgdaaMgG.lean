/-
  A message's bytes: the document's.
-/
import Derived.Test.YtaodibbogbkgdaaMgF
set_option linter.unusedVariables false
set_option linter.unusedSimpArgs false
namespace Go.Fx
theorem At.byte {h : Heap} {g o i : Nat} {a : List UInt8} (ha : At h g o (bvs a)) (hi : i < a.length) (K : Value → Prop) : Go.Fx.ld1 (.pointer (some ⟨g, o + i, none⟩)) h K = K (bv a[i]) := by
  have h1 : bvs a = bvs (a.take i) ++ [bv a[i]] ++ bvs (a.drop (i + 1)) := by
    have e : a = a.take i ++ a[i] :: a.drop (i + 1) := by rw [← List.drop_eq_getElem_cons, List.take_append_drop]
    unfold bvs
    conv => lhs; rw [e]
    rw [List.map_append, List.map_cons]
    simp only [List.append_assoc, List.singleton_append]
  rw [h1] at ha
  exact (ha.part (k := i) (by simp [bvs]; omega)).ld1 K
/-- 'l[j][i]', l a slice of names. -/
theorem Rows'.byte {w : World} {v : Value} {l : List (Vec 32)} {j i : Nat} {a : Vec 32} (hr : Rows' (rVec 32) w.heap v l) (hj : l[j]? = some a) (hi : i < 32) {K : Value → Prop} (h : K (bv (a.1[i]'(by rw [a.2]; exact hi)))) :
    ixs 32 v (.int .i64 (j : Int)) fun t => ixa 32 1 t (.int .i64 (i : Int)) fun p => Go.Fx.ld1 p w.heap K := by
  obtain ⟨g, o, ha, hx⟩ := hr.ix (by decide) hj
  have hx' : ∀ K, ixs 32 v (.int .i64 (j : Int)) K = K (.pointer (some ⟨g, o, none⟩)) := hx .i64
  rw [hx', ixa_mk _ _ _ _ _ _ _ (by omega) (by omega), Int.toNat_natCast, Nat.mul_one, At.byte (a := a.1) ha (by rw [a.2]; exact hi)]
  exact h
theorem be4_list (n : Nat) : be 4 n = [UInt8.ofNat (n / 16777216), UInt8.ofNat (n / 65536), UInt8.ofNat (n / 256), UInt8.ofNat n] := by
  rw [be_cons, be_cons, be_cons, be_cons]
  simp [be]
section
variable {w0 w : World} {As : List Asn} {iv bv u v s : Value} {m : Msg} {l : List (Sl UInt8)} {b : List UInt8} {n : Nat}
theorem four_spec (hs : Sep w0 w (ownB s b :: As)) (hn : n < 4294967296) (hb : b.length ≤ 1000000) : cal P f_ref04_four [s, .int .i64 n] w fun r w' => Sep w0 w' (ownB r (b ++ be 4 n) :: As) := by
  refine s_ref04_four fun R hR => ?_
  unfold c_ref04_four
  have sh : ∀ (k : Nat) (d : Nat) K, 2 ^ k = d → k ≤ 64 → sh BinOp.shr (.int .i64 (n : Int)) (.int .u64 (k : Int)) K = K (.int .i64 ((n / d : Nat) : Int)) := fun k d K hd hk => by
    rw [sh_shr _ _ _ _ _ (by omega)]
    have h1 : min ((k : Int)).toNat IntKind.i64.bits = k := by show min k 64 = k; omega
    have h2 : ((2 : Int) ^ k) = (d : Int) := by rw [← hd]; simp
    rw [h1, h2, Int.ofNat_fdiv]
  have s24 := fun K => sh 24 16777216 K rfl (by omega)
  have s16 := fun K => sh 16 65536 K rfl (by omega)
  have s8 := fun K => sh 8 256 K rfl (by omega)
  have cb : ∀ (k : Nat) K, cvi .u8 (.int .i64 (k : Int)) K = K (Go.Fx.bv (UInt8.ofNat k)) := fun k K => by rw [cvi_int, bv_of _ (by omega), Int.toNat_natCast]
  rw [show (Value.int .u64 24) = .int .u64 ((24 : Nat) : Int) from rfl, s24, cb, show (Value.int .u64 16) = .int .u64 ((16 : Nat) : Int) from rfl, s16, cb, show (Value.int .u64 8) = .int .u64 ((8 : Nat) : Int) from rfl, s8, cb, cb]
  have hr : ∀ (a b c d : UInt8) (w : World), (Instr.buildSlice T_sl_uint8 4 #[(0, Go.Fx.bv a), (1, Go.Fx.bv b), (2, Go.Fx.bv c), (3, Go.Fx.bv d)]).run P w = .ok (.slice (some ⟨w.heap.size, 0, none⟩) 4 4) (w.alloc (.cells (bvs [a, b, c, d]).toArray T_uint8)) := fun a b c d w => by kernel_rfl
  refine buildB_s (l := [UInt8.ofNat (n / 16777216), UInt8.ofNat (n / 65536), UInt8.ofNat (n / 256), UInt8.ofNat n]) hs rfl (hr _ _ _ _ _) fun g1 w1 hs1 => ?_
  refine appB_s S_sl_uint8 U_sl_uint8 (by simp) hs1.p1 (Sep.rd hs1) (by simp; omega) fun v' w2 hs2 => ?_
  rw [← be4_list] at hs2
  exact hR _ _ hs2.d1
theorem mrBytes_spec (hr : MR w.heap m iv bv l) (hl : l.length ≤ 9223372036854775807) : cal P f_ref04_Bytes [mq m iv bv] w fun r w' => ∃ s, r = .tuple #[s, .int .i64 m.chk] ∧ Sep w w' [ownB s m.out] := by
  refine s_ref04_Bytes fun R hR => ?_
  unfold c_ref04_Bytes
  refine bxA (Sep.start w) fun g w1 hs => ?_
  simp only [L_api_Msg hs.blk, L_api_Msg__Kind hs.blk, L_api_Msg__Req hs.blk, L_api_Msg__IDs hs.blk, L_api_Msg__Blocks hs.blk]
  refine cal_i (mrCheck_spec (hs.mr hr) hl) ?_
  rintro _ w2 ⟨rfl, hf2⟩
  have hs2 := hs.old hf2
  by_cases hok : m.ok
  case neg =>
    have h0 : m.chk = 40 := by rw [Msg.chk, if_neg hok]
    have ho : m.out = [] := by rw [Msg.out, if_neg hok]
    rw [h0, ho] at hR
    simp only [h0, nilc_some, fad_mk, pik_true, pik_false, cnd_true, cnd_false, gif_same, gif_tf, gif_ft, gif_undef, bi_add, bi_sub, bi_mul, bi_eql, bi_neq, bi_lss, bi_leq, bi_gtr, bi_geq, notB_bool, cvi_int, lenS_mk, lenT_mk, ext0, ext1, ext2, nilP_mk, nilS_mk, fldv_agg, jn0_k, jn1_k, jn2_k, jn1_and, jn1_or, ex_some, Option.isNone_some, Option.isNone_none, Bool.false_bne, Bool.bne_true, Bool.bne_false, Bool.true_bne, Bool.not_true, Bool.not_false, Bool.and_true, Bool.true_and, Bool.and_false, Bool.false_and, Bool.or_true, Bool.true_or, Bool.or_false, Bool.false_or, cond_true, cond_false, List.getElem?_toArray, List.getElem?_cons_zero, List.getElem?_cons_succ, Nat.zero_add, Nat.add_zero, Nat.reduceAdd, forall_const, show ((40 : Int) != 0) = true from rfl]
    exact hR _ _ ⟨_, rfl, hs2.tail.nil⟩
  have h0 : m.chk = 0 := by rw [Msg.chk, if_pos hok]
  have ho : m.out = m.bytes := by rw [Msg.out, if_pos hok]
  have hk := Msg.kinds hok.1
  have hq := hok.2.1
  have hq2 := hok.2.2.1
  have hcs := Msg.ok_cases hok
  have hlen := Msg.bytes_len hok
  rw [Msg.bytes_eq, List.length_append, List.length_append, encI_len] at hlen
  rw [h0, ho] at hR
  simp only [h0, nilc_some, fad_mk, pik_true, pik_false, cnd_true, cnd_false, gif_same, gif_tf, gif_ft, gif_undef, bi_add, bi_sub, bi_mul, bi_eql, bi_neq, bi_lss, bi_leq, bi_gtr, bi_geq, notB_bool, cvi_int, lenS_mk, lenT_mk, ext0, ext1, ext2, nilP_mk, nilS_mk, fldv_agg, jn0_k, jn1_k, jn2_k, jn1_and, jn1_or, ex_some, Option.isNone_some, Option.isNone_none, Bool.false_bne, Bool.bne_true, Bool.bne_false, Bool.true_bne, Bool.not_true, Bool.not_false, Bool.and_true, Bool.true_and, Bool.and_false, Bool.false_and, Bool.or_true, Bool.true_or, Bool.or_false, Bool.false_or, cond_true, cond_false, List.getElem?_toArray, List.getElem?_cons_zero, List.getElem?_cons_succ, Nat.zero_add, Nat.add_zero, Nat.reduceAdd, forall_const, show ((0 : Int) != 0) = false from rfl, L_api_Msg hs2.blk, L_api_Msg__Kind hs2.blk, L_api_Msg__Req hs2.blk, L_api_Msg__IDs hs2.blk, L_api_Msg__Blocks hs2.blk]
  refine cal_i (rbears_spec m.k) ?_
  rintro _ _ ⟨rfl, rfl⟩
  have e1 : Value.int .u8 (IntKind.u8.wrap m.k) = Go.Fx.bv (UInt8.ofNat m.k.toNat) := by rw [bv_of _ (by omega)]
  have e2 : (Value.int .i64 m.q) = .int .i64 ((m.q.toNat : Nat) : Int) := by congr 1; omega
  simp only [nilc_some, fad_mk, pik_true, pik_false, cnd_true, cnd_false, gif_same, gif_tf, gif_ft, gif_undef, bi_add, bi_sub, bi_mul, bi_eql, bi_neq, bi_lss, bi_leq, bi_gtr, bi_geq, notB_bool, cvi_int, lenS_mk, lenT_mk, ext0, ext1, ext2, nilP_mk, nilS_mk, fldv_agg, jn0_k, jn1_k, jn2_k, jn1_and, jn1_or, ex_some, Option.isNone_some, Option.isNone_none, Bool.false_bne, Bool.bne_true, Bool.bne_false, Bool.true_bne, Bool.not_true, Bool.not_false, Bool.and_true, Bool.true_and, Bool.and_false, Bool.false_and, Bool.or_true, Bool.true_or, Bool.or_false, Bool.false_or, cond_true, cond_false, List.getElem?_toArray, List.getElem?_cons_zero, List.getElem?_cons_succ, Nat.zero_add, Nat.add_zero, Nat.reduceAdd, forall_const, e1, L_api_Msg hs2.blk, L_api_Msg__Kind hs2.blk, L_api_Msg__Req hs2.blk, L_api_Msg__IDs hs2.blk, L_api_Msg__Blocks hs2.blk]
  have hr1 : ∀ (a : UInt8) (w : World), (Instr.buildSlice T_sl_uint8 1 #[(0, Go.Fx.bv a)]).run P w = .ok (.slice (some ⟨w.heap.size, 0, none⟩) 1 1) (w.alloc (.cells (bvs [a]).toArray T_uint8)) := fun a w => by kernel_rfl
  refine buildB_s (l := [UInt8.ofNat m.k.toNat]) hs2 rfl (hr1 _ _) fun g3 w3 hs3 => ?_
  have e4 : [UInt8.ofNat m.k.toNat] = be 1 m.k.toNat := by simp [be]
  rw [e4] at hs3
  simp only [nilc_some, fad_mk, pik_true, pik_false, cnd_true, cnd_false, gif_same, gif_tf, gif_ft, gif_undef, bi_add, bi_sub, bi_mul, bi_eql, bi_neq, bi_lss, bi_leq, bi_gtr, bi_geq, notB_bool, cvi_int, lenS_mk, lenT_mk, ext0, ext1, ext2, nilP_mk, nilS_mk, fldv_agg, jn0_k, jn1_k, jn2_k, jn1_and, jn1_or, ex_some, Option.isNone_some, Option.isNone_none, Bool.false_bne, Bool.bne_true, Bool.bne_false, Bool.true_bne, Bool.not_true, Bool.not_false, Bool.and_true, Bool.true_and, Bool.and_false, Bool.false_and, Bool.or_true, Bool.true_or, Bool.or_false, Bool.false_or, cond_true, cond_false, List.getElem?_toArray, List.getElem?_cons_zero, List.getElem?_cons_succ, Nat.zero_add, Nat.add_zero, Nat.reduceAdd, forall_const, L_api_Msg (Sep.p1 hs3).blk, L_api_Msg__Kind (Sep.p1 hs3).blk, L_api_Msg__Req (Sep.p1 hs3).blk, L_api_Msg__IDs (Sep.p1 hs3).blk, L_api_Msg__Blocks (Sep.p1 hs3).blk, e2]
  refine cal_i (four_spec hs3 (by omega) (by simp [be_length])) ?_
  rintro s5 w5 hs5
  replace hs5 : Sep w w5 (ownB s5 (be 1 m.k.toNat ++ be 4 m.q.toNat) :: [mb g m iv bv]) := hs5
  refine ⟨fun t w' => Sep w w' (ownB t m.head :: [mb g m iv bv]), ?_, ?_⟩
  · cases hcn : ((bearsR m.k).2.2 == 2 || (bearsR m.k).2.2 == 4) with
    | true =>
      have hi := (hs5.mr hr).ids.len
      have hb := (hs5.mr hr).bl
      have e3 : IntKind.i64.wrap ((m.ids.length : Int) + (m.bs.length : Int)) = ((m.ids.length + m.bs.length : Nat) : Int) := by rw [wi64 (by omega) (by omega)]; omega
      simp only [nilc_some, fad_mk, pik_true, pik_false, cnd_true, cnd_false, gif_same, gif_tf, gif_ft, gif_undef, bi_add, bi_sub, bi_mul, bi_eql, bi_neq, bi_lss, bi_leq, bi_gtr, bi_geq, notB_bool, cvi_int, lenS_mk, lenT_mk, ext0, ext1, ext2, nilP_mk, nilS_mk, fldv_agg, jn0_k, jn1_k, jn2_k, jn1_and, jn1_or, ex_some, Option.isNone_some, Option.isNone_none, Bool.false_bne, Bool.bne_true, Bool.bne_false, Bool.true_bne, Bool.not_true, Bool.not_false, Bool.and_true, Bool.true_and, Bool.and_false, Bool.false_and, Bool.or_true, Bool.true_or, Bool.or_false, Bool.false_or, cond_true, cond_false, List.getElem?_toArray, List.getElem?_cons_zero, List.getElem?_cons_succ, Nat.zero_add, Nat.add_zero, Nat.reduceAdd, forall_const, L_api_Msg (Sep.p1 hs5).blk, L_api_Msg__Kind (Sep.p1 hs5).blk, L_api_Msg__Req (Sep.p1 hs5).blk, L_api_Msg__IDs (Sep.p1 hs5).blk, L_api_Msg__Blocks (Sep.p1 hs5).blk, hi, hb, e3, hcn]
      refine cal_i (four_spec hs5 (by omega) (by simp [be_length])) ?_
      rintro s7 w7 hs7
      have : m.counts = true := hcn
      have e4 : m.head = be 1 m.k.toNat ++ be 4 m.q.toNat ++ be 4 (m.ids.length + m.bs.length) := by unfold Msg.head Msg.num; rw [if_pos this]
      rw [e4]
      exact hs7
    | false =>
      simp only [nilc_some, fad_mk, pik_true, pik_false, cnd_true, cnd_false, gif_same, gif_tf, gif_ft, gif_undef, bi_add, bi_sub, bi_mul, bi_eql, bi_neq, bi_lss, bi_leq, bi_gtr, bi_geq, notB_bool, cvi_int, lenS_mk, lenT_mk, ext0, ext1, ext2, nilP_mk, nilS_mk, fldv_agg, jn0_k, jn1_k, jn2_k, jn1_and, jn1_or, ex_some, Option.isNone_some, Option.isNone_none, Bool.false_bne, Bool.bne_true, Bool.bne_false, Bool.true_bne, Bool.not_true, Bool.not_false, Bool.and_true, Bool.true_and, Bool.and_false, Bool.false_and, Bool.or_true, Bool.true_or, Bool.or_false, Bool.false_or, cond_true, cond_false, List.getElem?_toArray, List.getElem?_cons_zero, List.getElem?_cons_succ, Nat.zero_add, Nat.add_zero, Nat.reduceAdd, forall_const, hcn]
      have : m.counts = false := hcn
      have e4 : m.head = be 1 m.k.toNat ++ be 4 m.q.toNat := by unfold Msg.head Msg.num; rw [if_neg (by rw [this]; simp), List.append_nil]
      rw [e4]
      exact hs5
  · rintro s6 w6 hs6 _
    refine ⟨fun t x w' => ∃ (i : Nat), x = .int .i64 i ∧ i ≤ m.ids.length ∧ Sep w w' (ownB t (m.head ++ encI (m.ids.take i)) :: [mb g m iv bv]), fun _ x _ => (m.ids.length - RowKit.intOf x).toNat, ⟨0, rfl, by omega, by simpa [encI] using hs6⟩, ?_⟩
    rintro s7 _ w7 ⟨i, rfl, hii, hs7⟩ -
    have hi := (hs7.mr hr).ids.len
    simp only [nilc_some, fad_mk, pik_true, pik_false, cnd_true, cnd_false, gif_same, gif_tf, gif_ft, gif_undef, bi_add, bi_sub, bi_mul, bi_eql, bi_neq, bi_lss, bi_leq, bi_gtr, bi_geq, notB_bool, cvi_int, lenS_mk, lenT_mk, ext0, ext1, ext2, nilP_mk, nilS_mk, fldv_agg, jn0_k, jn1_k, jn2_k, jn1_and, jn1_or, ex_some, Option.isNone_some, Option.isNone_none, Bool.false_bne, Bool.bne_true, Bool.bne_false, Bool.true_bne, Bool.not_true, Bool.not_false, Bool.and_true, Bool.true_and, Bool.and_false, Bool.false_and, Bool.or_true, Bool.true_or, Bool.or_false, Bool.false_or, cond_true, cond_false, List.getElem?_toArray, List.getElem?_cons_zero, List.getElem?_cons_succ, Nat.zero_add, Nat.add_zero, Nat.reduceAdd, forall_const, L_api_Msg (Sep.p1 hs7).blk, L_api_Msg__Kind (Sep.p1 hs7).blk, L_api_Msg__Req (Sep.p1 hs7).blk, L_api_Msg__IDs (Sep.p1 hs7).blk, L_api_Msg__Blocks (Sep.p1 hs7).blk, hi]
    rw [cnd_bool]
    refine ⟨fun h => ?_, fun h => ?_⟩
    · have hlt : i < m.ids.length := by simp at h; omega
      have hx := List.getElem?_eq_getElem hlt
      generalize m.ids[i] = x at hx
      have hil := encI_len (m.ids.take i)
      rw [List.length_take, Nat.min_eq_left (by omega)] at hil
      refine ⟨fun t y w' => ∃ (j : Nat), y = .int .i64 j ∧ j ≤ 32 ∧ Sep w w' (ownB t (m.head ++ encI (m.ids.take i) ++ x.1.take j) :: [mb g m iv bv]), fun _ y _ => (32 - RowKit.intOf y).toNat, ⟨0, rfl, by omega, by simpa using hs7⟩, ?_⟩
      rintro s8 _ w8 ⟨j, rfl, hj, hs8⟩ -
      simp only [nilc_some, fad_mk, pik_true, pik_false, cnd_true, cnd_false, gif_same, gif_tf, gif_ft, gif_undef, bi_add, bi_sub, bi_mul, bi_eql, bi_neq, bi_lss, bi_leq, bi_gtr, bi_geq, notB_bool, cvi_int, lenS_mk, lenT_mk, ext0, ext1, ext2, nilP_mk, nilS_mk, fldv_agg, jn0_k, jn1_k, jn2_k, jn1_and, jn1_or, ex_some, Option.isNone_some, Option.isNone_none, Bool.false_bne, Bool.bne_true, Bool.bne_false, Bool.true_bne, Bool.not_true, Bool.not_false, Bool.and_true, Bool.true_and, Bool.and_false, Bool.false_and, Bool.or_true, Bool.true_or, Bool.or_false, Bool.false_or, cond_true, cond_false, List.getElem?_toArray, List.getElem?_cons_zero, List.getElem?_cons_succ, Nat.zero_add, Nat.add_zero, Nat.reduceAdd, forall_const]
      rw [cnd_bool]
      have hxl := x.2
      refine ⟨fun h2 => ?_, fun h2 => ?_⟩
      · have h32 : j < 32 := by simp at h2; omega
        simp only [L_api_Msg (Sep.p1 hs8).blk, L_api_Msg__Kind (Sep.p1 hs8).blk, L_api_Msg__Req (Sep.p1 hs8).blk, L_api_Msg__IDs (Sep.p1 hs8).blk, L_api_Msg__Blocks (Sep.p1 hs8).blk]
        refine (hs8.mr hr).ids.byte hx h32 ?_
        refine app1 hs8 (by simp only [List.length_append, List.length_take]; omega) fun s9 w9 hs9 => ?_
        rw [wi64 (by omega) (by omega)]
        refine ⟨⟨j + 1, by simp, by omega, ?_⟩, by simp [RowKit.intOf]; omega⟩
        rw [List.take_succ_eq_append_getElem (by omega), ← List.append_assoc]
        exact hs9
      · have h32 : j = 32 := by simp at h2; omega
        subst h32
        have e32 : x.1.take 32 = x.1 := List.take_of_length_le (by omega)
        rw [e32, List.append_assoc, ← encI_take hx] at hs8
        rw [wi64 (by omega) (by omega)]
        exact ⟨⟨i + 1, by simp, by omega, hs8⟩, by simp [RowKit.intOf]; omega⟩
    · have hge : i = m.ids.length := by simp at h; omega
      subst hge
      rw [List.take_length] at hs7
      have hbl : m.bs.length = l.length := by rw [hr.eq, List.length_map]
      refine ⟨fun t x w' => ∃ (i : Nat), x = .int .i64 i ∧ i ≤ l.length ∧ Sep w w' (ownB t (m.head ++ encI m.ids ++ encB (m.bs.take i)) :: [mb g m iv bv]), fun _ x _ => (l.length - RowKit.intOf x).toNat, ⟨0, rfl, by omega, by simpa [encB] using hs7⟩, ?_⟩
      rintro s8 _ w8 ⟨i, rfl, hii, hs8⟩ -
      have hb := (hs8.mr hr).bs.len
      simp only [nilc_some, fad_mk, pik_true, pik_false, cnd_true, cnd_false, gif_same, gif_tf, gif_ft, gif_undef, bi_add, bi_sub, bi_mul, bi_eql, bi_neq, bi_lss, bi_leq, bi_gtr, bi_geq, notB_bool, cvi_int, lenS_mk, lenT_mk, ext0, ext1, ext2, nilP_mk, nilS_mk, fldv_agg, jn0_k, jn1_k, jn2_k, jn1_and, jn1_or, ex_some, Option.isNone_some, Option.isNone_none, Bool.false_bne, Bool.bne_true, Bool.bne_false, Bool.true_bne, Bool.not_true, Bool.not_false, Bool.and_true, Bool.true_and, Bool.and_false, Bool.false_and, Bool.or_true, Bool.true_or, Bool.or_false, Bool.false_or, cond_true, cond_false, List.getElem?_toArray, List.getElem?_cons_zero, List.getElem?_cons_succ, Nat.zero_add, Nat.add_zero, Nat.reduceAdd, forall_const, L_api_Msg (Sep.p1 hs8).blk, L_api_Msg__Kind (Sep.p1 hs8).blk, L_api_Msg__Req (Sep.p1 hs8).blk, L_api_Msg__IDs (Sep.p1 hs8).blk, L_api_Msg__Blocks (Sep.p1 hs8).blk, hb]
      rw [cnd_bool]
      refine ⟨fun h => ?_, fun h => ?_⟩
      · have hlt : i < l.length := by simp at h; omega
        have hx := List.getElem?_eq_getElem hlt
        generalize l[i] = x at hx
        have hxm : m.bs[i]? = some x.l := by rw [hr.eq, List.getElem?_map, hx]; rfl
        have h1 := encB_take_le m.bs (i + 1)
        have hxl := hok.2.2.2.2 x.l (List.mem_of_getElem? hxm)
        rw [encB_take hxm, List.length_append, List.length_append, be_length] at h1
        refine ⟨fun u => Sep w u [mb g m iv bv], (hs8.drew _).tail, ?_⟩
        have hs9 : Sep w { w8 with drawn := w8.drawn + 1 } (ownB s8 (m.head ++ encI m.ids ++ encB (m.bs.take i)) :: [mb g m iv bv]) := hs8.drew _
        simp only [nilc_some, fad_mk, pik_true, pik_false, cnd_true, cnd_false, gif_same, gif_tf, gif_ft, gif_undef, bi_add, bi_sub, bi_mul, bi_eql, bi_neq, bi_lss, bi_leq, bi_gtr, bi_geq, notB_bool, cvi_int, lenS_mk, lenT_mk, ext0, ext1, ext2, nilP_mk, nilS_mk, fldv_agg, jn0_k, jn1_k, jn2_k, jn1_and, jn1_or, ex_some, Option.isNone_some, Option.isNone_none, Bool.false_bne, Bool.bne_true, Bool.bne_false, Bool.true_bne, Bool.not_true, Bool.not_false, Bool.and_true, Bool.true_and, Bool.and_false, Bool.false_and, Bool.or_true, Bool.true_or, Bool.or_false, Bool.false_or, cond_true, cond_false, List.getElem?_toArray, List.getElem?_cons_zero, List.getElem?_cons_succ, Nat.zero_add, Nat.add_zero, Nat.reduceAdd, forall_const]
        refine rdS_ld (v := bv) (fun u hu K hk => (L_api_Msg__Blocks hu.blk K).mpr hk) ?_
        refine rdS_el (hS := fun u hu => (hu.mr hr).bs) hs9.tail hx ?_
        rw [((hs9.mr hr).bs.2 x (List.mem_of_getElem? hx)).len]
        refine rdS_ld (v := bv) (fun u hu K hk => (L_api_Msg__Blocks hu.blk K).mpr hk) ?_
        refine rdS_el (hS := fun u hu => (hu.mr hr).bs) hs9.tail hx ?_
        refine efS_i (cal_i (four_spec hs9 (by omega) (by simp only [List.length_append, encI_len]; omega)) ?_)
        rintro s10 w10 hs10
        refine ⟨hs10.tail, efC_efP (appB_s S_sl_uint8 U_sl_uint8 (by simp) hs10 ((hs10.mr hr).bs.2 x (List.mem_of_getElem? hx)) (by simp only [List.length_append, encI_len, be_length]; omega) fun s11 w11 hs11 => ?_)⟩
        rw [wi64 (by omega) (by omega)]
        refine ⟨⟨i + 1, by simp, by omega, ?_⟩, by simp [RowKit.intOf]; omega⟩
        rw [encB_take hxm, ← List.append_assoc, ← List.append_assoc]
        exact hs11
      · have hge : i = l.length := by simp at h; omega
        subst hge
        rw [List.take_of_length_le (by omega), ← Msg.bytes_eq] at hs8
        exact hR _ _ ⟨s8, rfl, hs8.d1⟩
end
end Go.Fx
