/- Chapter 18 in plain Lean: what a scan tells of a log's bytes, cut, turned, with a tail, as another one. -/
import Derived.Test.YtoehjojipmeagaaDoorHWritten
namespace Go.Proofs.YtoehjojipmeagaaDoor.X
open Go.RowKit Go.Proofs.YtoehjojipmeagaaDoorW.PrintWords Go.Proofs.YtoehjojipmeagaaDoorW.PrintLast Go.Proofs.YtoehjojipmeagaaDoorW.PrintMore Go.Proofs.YtoehjojipmeagaaDoor.G Go.Proofs.YtoehjojipmeagaaDoor.T Go.Proofs.YtoehjojipmeagaaDoor.Pure Go.Proofs.YtoehjojipmeagaaDoor.E
set_option linter.unusedVariables false
set_option linter.unusedSimpArgs false

theorem written_no (ep fi : Int) (AB : Option Addr) (nB cB : Nat) (Bs : List (List Int)) (w : World) (hT : Tab w) (hfi : -9223372036854775808 ≤ fi ∧ fi ≤ 9223372036854775807) (hl : Bs.length = nB) (hc : nB ≤ cB) (hC : Kd.C (Kd.slice 5 (Kd.int .u8)) w AB nB Bs) (hno : ¬ okLog ep fi (cutBs Bs)) :
    Calls Tryd.prog 21 #[.agg #[.int .i64 ep, .int .i64 fi, .slice AB nB cB]] w fun e w' => e = .returned (.tuple #[.slice none 0 0, .slice none 0 0, .slice none 0 0, .bool false]) ∧ Below w.heap.size w w' :=
  (written_calls ep fi AB nB cB Bs w hT hfi hl hc hC).mono fun e w' h => by
    rcases h with ⟨_, h1, h2⟩ | ⟨h, _⟩
    · exact ⟨h1, h2⟩
    · exact absurd h hno
theorem written_yes (ep fi : Int) (AB : Option Addr) (nB cB : Nat) (Bs : List (List Int)) (w : World) (hT : Tab w) (hfi : -9223372036854775808 ≤ fi ∧ fi ≤ 9223372036854775807) (hl : Bs.length = nB) (hc : nB ≤ cB) (hC : Kd.C (Kd.slice 5 (Kd.int .u8)) w AB nB Bs) (hok : okLog ep fi (cutBs Bs)) :
    Calls Tryd.prog 21 #[.agg #[.int .i64 ep, .int .i64 fi, .slice AB nB cB]] w fun e w' => ∃ (v6 v7 v8 : Value) (hs : List Head), e = .returned (.tuple #[v6, v7, v8, .bool true]) ∧ Kd.R (Kd.int .u8) 5 w' w.heap.size (fun _ => True) v6 (WR ep fi (cutBs Bs)) ∧ Kd.R (Kd.int .i64) 3 w' w.heap.size (fun _ => True) v7 (EN ep fi (cutBs Bs) (cutBs Bs).length) ∧ Kd.R hdr 22 w' w.heap.size (fun _ => True) v8 hs ∧ AllStay w hs (cutBs Bs) ∧ Below w.heap.size w w' :=
  (written_calls ep fi AB nB cB Bs w hT hfi hl hc hC).mono fun e w' h => by
    rcases h with ⟨h, _⟩ | ⟨_, h⟩
    · exact absurd hok h
    · exact h
theorem wf_i64 {x : Int} (h : (Lit.int .i64 x).wf = true) : -9223372036854775808 ≤ x ∧ x ≤ 9223372036854775807 := by
  simp [Lit.wf, IntKind.min, IntKind.max, IntKind.signed, IntKind.bits] at h
  omega
theorem EN_rd (ep fi : Int) (bs : List (List Int)) (i n : Nat) (hi : i < n) : rd (EN ep fi bs n) (i : Int) = ((WR ep fi (bs.take (i + 1))).length : Int) := by
  rw [rd_nat, EN, List.getD_eq_getElem?_getD, List.getElem?_map, List.getElem?_range hi]; rfl
theorem EN_cell {W : World} {ad : Addr} {ep fi : Int} {bs : List (List Int)} (hC : Kd.C (Kd.int .i64) W (some ad) bs.length (EN ep fi bs bs.length)) (i : Nat) (hi : i < bs.length) : W.cell? (ad.add i) = some (.int .i64 ((WR ep fi (bs.take (i + 1))).length : Int)) := by
  obtain ⟨ad', e, h⟩ := Kd.at_int hC (i : Int) (by omega) (by omega)
  injection e with e
  subst e
  rw [Int.toNat_natCast, EN_rd ep fi bs i _ hi] at h
  exact h
theorem placeL (a : Int) (n : Nat) (h0 : 0 < n) (h1 : n < 9223372036854775808) : ∃ k : Nat, k < n ∧ wrap64 (Int.tmod (IntKind.u64.wrap a) (n : Int)) = (k : Int) := by
  have hw : ∀ m : Int, IntKind.u64.wrap m = m % 18446744073709551616 := fun m => by simp [IntKind.wrap, IntKind.bits, IntKind.signed]
  have hu : 0 ≤ IntKind.u64.wrap a := by rw [hw]; omega
  generalize IntKind.u64.wrap a = b at hu
  have h2 := Int.tmod_nonneg (n : Int) hu
  have h3 := Int.tmod_lt_of_pos b (show (0 : Int) < (n : Int) by omega)
  generalize Int.tmod b (n : Int) = c at h2 h3
  refine ⟨c.toNat, by omega, ?_⟩
  unfold wrap64
  omega
theorem u64nL (n : Nat) (h : n < 9223372036854775808) : IntKind.u64.wrap (n : Int) = (n : Int) := by
  have hw : ∀ m : Int, IntKind.u64.wrap m = m % 18446744073709551616 := fun m => by simp [IntKind.wrap, IntKind.bits, IntKind.signed]
  rw [hw]; omega
theorem wf_u8' {x : Int} (h : (Lit.int .u8 x).wf = true) : 0 ≤ x ∧ x < 256 := by
  simp [Lit.wf, IntKind.min, IntKind.max, IntKind.signed, IntKind.bits] at h
  omega
theorem xor_byte (c b : Int) (hc : 0 ≤ c ∧ c < 256) (hb : 0 ≤ b ∧ b < 256) (h0 : b ≠ 0) : (0 ≤ Go.bits .xor .u8 c b ∧ Go.bits .xor .u8 c b < 256) ∧ Go.bits .xor .u8 c b ≠ c := by
  obtain ⟨x, rfl⟩ := Int.eq_ofNat_of_zero_le hc.1
  obtain ⟨y, rfl⟩ := Int.eq_ofNat_of_zero_le hb.1
  rw [xor8_nat x y (by omega) (by omega)]
  have h8 : x ^^^ y < 2 ^ 8 := Nat.xor_lt_two_pow (by omega) (by omega)
  refine ⟨by omega, fun h => h0 ?_⟩
  have h1 : x ^^^ y = x := by omega
  have h2 : x ^^^ (x ^^^ y) = x ^^^ x := by rw [h1]
  rw [← Nat.xor_assoc, Nat.xor_self, Nat.zero_xor] at h2
  omega
theorem RD_nil (ep sq : Int) : (RD [] ep sq).2.2 ≠ 0 := by
  unfold RD
  by_cases hn : [ep, sq].all numB = true
  · rw [if_pos hn, if_pos (by decide)]; decide
  · rw [if_neg hn]; decide
/-- A log that is ok, and not empty. -/
structure Ok (ep fi : Int) (bs : List (List Int)) : Prop where
  ne : bs ≠ []
  h1 : numB ep = true
  h2 : numB fi = true
  h3 : fi + (bs.length : Int) - 1 ≤ 2147483647
  h4 : ∀ b ∈ bs, b.length ≤ 100
  h5 : ∀ b ∈ bs, Bytes b
theorem Ok.of {ep fi : Int} {bs : List (List Int)} (h : okLog ep fi bs) (hne : bs ≠ []) (h4 : ∀ b ∈ bs, b.length ≤ 100) (h5 : ∀ b ∈ bs, Bytes b) : Ok ep fi bs := by
  rcases h with h | ⟨h1, h2, h3⟩
  · exact absurd h hne
  · exact ⟨hne, h1, h2, h3, h4, h5⟩
theorem Ok.take {ep fi : Int} {bs : List (List Int)} (h : Ok ep fi bs) (n : Nat) : (bs.take n) ≠ [] → numB fi = true ∧ numB (fi + (bs.take n).length - 1) = true := by
  intro hne
  refine ⟨h.h2, ?_⟩
  have : 0 < (bs.take n).length := List.length_pos_iff.2 hne
  have h2 := h.h2
  have h3 := h.h3
  rw [List.length_take] at this ⊢
  simp [numB] at h2 ⊢
  omega
theorem Ok.scan {ep fi : Int} {bs : List (List Int)} (h : Ok ep fi bs) (n : Nat) (rest : List Int) (m : Nat) (hm : (bs.take n).length ≤ m) :
    scan m (WR ep fi (bs.take n) ++ rest) ep fi = (bs.take n ++ (scan (m - (bs.take n).length) rest ep (fi + (bs.take n).length)).1, ((WR ep fi (bs.take n)).length : Int) + (scan (m - (bs.take n).length) rest ep (fi + (bs.take n).length)).2) :=
  scan_WR ep rest h.h1 (bs.take n) m fi (fun b hb => by have := h.h4 b (List.mem_of_mem_take hb); omega) (h.take n) hm
theorem Ok.all {ep fi : Int} {bs : List (List Int)} (h : Ok ep fi bs) : [ep, fi].all numB = true := by simp [h.h1, h.h2]
theorem Ok.bytes {ep fi : Int} {bs : List (List Int)} (h : Ok ep fi bs) : Bytes (WR ep fi bs) := WR_Bytes ep h.h1 bs fi h.h5 (fun hne => by have := h.take bs.length; rw [List.take_length] at this; exact this hne)
/-- Scanned up to a place where no record stands. -/
theorem Ok.SC {ep fi : Int} {bs : List (List Int)} (h : Ok ep fi bs) (n : Nat) (rest : List Int) (hr : (RD rest ep (fi + (bs.take n).length)).2.2 ≠ 0) : SC (WR ep fi (bs.take n) ++ rest) ep fi = (bs.take n, ((WR ep fi (bs.take n)).length : Int), 0) := by
  unfold Pure.SC
  rw [if_pos h.all, h.scan n rest _ (by have := WR_length_le ep (bs.take n) fi; rw [List.length_append]; omega), scan_stop _ _ _ _ hr]
  simp
theorem Ok.back {ep fi : Int} {bs : List (List Int)} (h : Ok ep fi bs) : Pure.SC (WR ep fi bs) ep fi = (bs, ((WR ep fi bs).length : Int), 0) := by
  have := h.SC bs.length [] (RD_nil _ _)
  rwa [List.take_length, List.append_nil] at this
/-- With whatever behind. -/
theorem Ok.tail {ep fi : Int} {bs : List (List Int)} (h : Ok ep fi bs) (tail : List Int) (hb : Bytes tail) : ∃ (X : List (List Int)) (n : Nat), Pure.SC (WR ep fi bs ++ tail) ep fi = (bs ++ X, ((WR ep fi bs).length : Int) + (n : Int), 0) ∧ X.length * 14 ≤ tail.length := by
  have hs := h.scan bs.length tail ((WR ep fi bs ++ tail).length + 1) (by have := WR_length_le ep (bs.take bs.length) fi; rw [List.take_length] at this ⊢; rw [List.length_append]; omega)
  rw [List.take_length] at hs
  have he := scan_end 0 ((WR ep fi bs ++ tail).length + 1 - bs.length) tail ep (fi + bs.length) hb
  obtain ⟨n, hn⟩ := Int.eq_ofNat_of_zero_le he.1
  refine ⟨(Pure.scan ((WR ep fi bs ++ tail).length + 1 - bs.length) tail ep (fi + bs.length)).1, n, ?_, scan_count _ _ _ _ hb⟩
  unfold Pure.SC
  rw [if_pos h.all, hs, hn]
/-- A log's bytes by a record. -/
theorem WR_split (ep : Int) (bs : List (List Int)) (fi : Int) (n : Nat) (b : List Int) (hn : n < bs.length) (hb : bs.getD n [] = b) : WR ep fi bs = WR ep fi (bs.take n) ++ (REC ep (fi + (n : Int)) b ++ WR ep (fi + (n : Int) + 1) (bs.drop (n + 1))) := by
  have key : ∀ (l r : List (List Int)) (sq : Int), WR ep sq (l ++ r) = WR ep sq l ++ WR ep (sq + l.length) r := by
    intro l
    induction l with
    | nil => intro r sq; simp [WR]
    | cons a l ih =>
      intro r sq
      have e : sq + 1 + (l.length : Int) = sq + ((a :: l).length : Int) := by simp; omega
      rw [List.cons_append, WR, WR, ih r (sq + 1), List.append_assoc, e]
  have hsplit : bs = bs.take n ++ (b :: bs.drop (n + 1)) := by
    rw [← hb, List.getD_eq_getElem?_getD, List.getElem?_eq_getElem hn]
    show bs = bs.take n ++ (bs[n] :: bs.drop (n + 1))
    rw [← List.drop_eq_getElem_cons hn, List.take_append_drop]
  have e := key (bs.take n) (b :: bs.drop (n + 1)) fi
  rw [← hsplit, List.length_take, Nat.min_eq_left (by omega), WR] at e
  exact e
theorem getD_mem {bs : List (List Int)} {n : Nat} (hn : n < bs.length) : bs.getD n [] ∈ bs := by
  rw [List.getD_eq_getElem?_getD, List.getElem?_eq_getElem hn]; exact List.getElem_mem hn
theorem WR_take_len (ep : Int) (bs : List (List Int)) (fi : Int) (n : Nat) (hn : n < bs.length) : (WR ep fi (bs.take (n + 1))).length = (WR ep fi (bs.take n)).length + (14 + (bs.getD n []).length) := by
  rw [WR_take ep fi bs n _ hn rfl, List.length_append, REC_length]
/-- Cut off. -/
theorem Ok.cut {ep fi : Int} {bs : List (List Int)} (h : Ok ep fi bs) (n k : Nat) (hn : n ≤ bs.length) (h1 : (WR ep fi (bs.take n)).length ≤ k) (h2 : n < bs.length → k < (WR ep fi (bs.take (n + 1))).length) (hk : k ≤ (WR ep fi bs).length) : Pure.SC ((WR ep fi bs).take k) ep fi = (bs.take n, ((WR ep fi (bs.take n)).length : Int), 0) := by
  rcases Nat.lt_or_ge n bs.length with hlt | hge
  · have h2' := h2 hlt
    rw [WR_take_len ep bs fi n hlt] at h2'
    have hb := h.h4 _ (getD_mem hlt)
    rw [WR_split ep bs fi n _ hlt rfl]
    have e : (WR ep fi (bs.take n) ++ (REC ep (fi + (n : Int)) (bs.getD n []) ++ WR ep (fi + (n : Int) + 1) (bs.drop (n + 1)))).take k = WR ep fi (bs.take n) ++ (REC ep (fi + (n : Int)) (bs.getD n [])).take (k - (WR ep fi (bs.take n)).length) := by
      rw [List.take_append, List.take_of_length_le h1, List.take_append_of_le_length (by rw [REC_length]; omega)]
    rw [e]
    exact h.SC n _ (RD_cut _ _ _ _ (by omega) (by omega) _ _)
  · obtain rfl : n = bs.length := by omega
    rw [List.take_length] at h1 ⊢
    rw [List.take_of_length_le (by omega)]
    exact h.back
/-- As another log. -/
theorem Ok.other {ep fi : Int} {bs : List (List Int)} (h : Ok ep fi bs) (ep' fi' : Int) (hne : ¬ (ep' = ep ∧ fi' = fi)) : ∃ r, Pure.SC (WR ep fi bs) ep' fi' = ([], 0, r) ∧ (r = 0 ∨ r = 2) := by
  unfold Pure.SC
  by_cases hn : [ep', fi'].all numB = true
  rotate_left
  · rw [if_neg hn]; exact ⟨2, rfl, .inr rfl⟩
  rw [if_pos hn]
  obtain ⟨b, l, rfl⟩ : ∃ b l, bs = b :: l := by
    cases bs with
    | nil => exact absurd rfl h.ne
    | cons b l => exact ⟨b, l, rfl⟩
  have hb := h.h4 b (by simp)
  have hr := RD_REC ep fi b (WR ep (fi + 1) l) ep' fi' h.h1 h.h2 (by omega)
  rw [if_pos hn, if_neg (fun hh => hne ⟨hh.1.symm, hh.2.symm⟩)] at hr
  refine ⟨0, ?_, .inl rfl⟩
  rw [WR, scan_stop _ _ _ _ (by rw [hr]; decide)]
/-! ### a byte turned -/
theorem rg_set (x : List Int) (q : Nat) (v : Int) (hq : q < x.length) (r : W) : rg (x.set q v) r = rg x r ^^^ sn (8 * (x.length - q)) (b32 (rd x (q : Int)) ^^^ b32 v) := by
  have e1 : x = x.take q ++ rd x (q : Int) :: x.drop (q + 1) := by rw [← E.drop_rd x q hq, List.take_append_drop]
  have e2 : x.set q v = x.take q ++ v :: x.drop (q + 1) := by rw [List.set_eq_take_append_cons_drop, if_pos hq]
  generalize hc : rd x (q : Int) = c at *
  have hl : (x.drop (q + 1)).length = x.length - (q + 1) := List.length_drop
  have h8 : 8 * (x.length - q) = 8 + 8 * (x.drop (q + 1)).length := by rw [hl]; omega
  rw [e2, h8]
  conv => rhs; rw [e1]
  have e1' : (x.take q ++ c :: x.drop (q + 1)).drop (q + 1) = x.drop (q + 1) := by rw [← e1]
  rw [rg_app, rg_app, rg_cons, rg_cons, e1', Nat.add_comm 8, ← Nat.add_comm 8]
  generalize rg (x.take q) r = s
  generalize x.drop (q + 1) = y
  rw [show s ^^^ b32 v = (s ^^^ b32 c) ^^^ (b32 c ^^^ b32 v) by rw [BitVec.xor_assoc, ← BitVec.xor_assoc (b32 c), BitVec.xor_self, BitVec.zero_xor], sn_xor, rg_xor, sn_add]
/-- A sealed text with one byte turned is refused. -/
theorem fits_turned (s : List Int) (hs : fits s = true) (hb : Bytes s) (q : Nat) (hq : q < s.length) (v : Int) (hv : 0 ≤ v ∧ v < 256) (hne : v ≠ rd s (q : Int)) : fits (s.set q v) = false := by
  unfold fits at hs ⊢
  have hs' := of_decide_eq_true hs
  refine decide_eq_false (fun hh => ?_)
  have h1 := (accepts s hs'.1 hb).1 hs'.2
  have hb' : Bytes (s.set q v) := fun x hx => by
    rcases List.mem_or_eq_of_mem_set hx with hx | rfl
    · exact hb x hx
    · exact hv
  have h2 := (accepts (s.set q v) hh.1 hb').1 hh.2
  rw [rg_set s q v hq, h1] at h2
  have h0 : sn (8 * (s.length - q)) (b32 (rd s (q : Int)) ^^^ b32 v) = 0#32 := by
    have h3 := congrArg (sn 32 FF ^^^ ·) h2
    simpa [← BitVec.xor_assoc] using h3
  have h4 := sn_inj_zero _ _ h0
  have hr := hb (rd s (q : Int)) (E.mem_rd s q hq)
  have h5 : b32 (rd s (q : Int)) = b32 v := by
    have := congrArg (· ^^^ b32 v) h4
    simpa [BitVec.xor_assoc] using this
  exact hne (b32_inj (by omega) (by omega) h5).symm
theorem RD_turn (ep sq : Int) (b rest : List Int) (h1 : numB ep = true) (h2 : numB sq = true) (hb : b.length ≤ 4096) (hbb : Bytes b) (q : Nat) (hq : q < 14 + b.length) (hq2 : 2 ≤ q) (v : Int) (hv : 0 ≤ v ∧ v < 256) (hne : v ≠ rd (REC ep sq b) (q : Int)) (ep' sq' : Int) : (RD ((REC ep sq b).set q v ++ rest) ep' sq').2.2 ≠ 0 := by
  have hl := REC_length ep sq b
  have hls : ((REC ep sq b).set q v).length = 14 + b.length := by rw [List.length_set, hl]
  have n2 : num (((REC ep sq b).set q v ++ rest).take 2) = (b.length : Int) := by
    rw [List.take_append_of_le_length (by omega), List.take_set_of_le (by omega), REC_form, List.take_left' (by rfl)]
    exact num_two _ hb
  have nf : ((REC ep sq b).set q v ++ rest).take (b.length + 14) = (REC ep sq b).set q v := List.take_left' (by omega)
  unfold RD
  by_cases hn : [ep', sq'].all numB = true
  rotate_left
  · rw [if_neg hn]; decide
  rw [if_pos hn, if_neg (by rw [List.length_append, hls]; omega), n2, if_neg (by omega), if_neg (by rw [List.length_append, hls]; omega), Int.toNat_natCast, nf, if_neg (by have hf : fits ((REC ep sq b).set q v) = false := fits_turned (REC ep sq b) (fits_sealed _) (REC_Bytes ep sq b h1 h2 hbb) q (by omega) v hv hne
                                                                                                                                                                            rw [hf]; decide)]
  decide
/-- One byte turned. -/
theorem Ok.turned {ep fi : Int} {bs : List (List Int)} (h : Ok ep fi bs) (n k : Nat) (hn : n < bs.length) (h1 : (WR ep fi (bs.take n)).length + 2 ≤ k) (h2 : k < (WR ep fi (bs.take (n + 1))).length) (v : Int) (hv : 0 ≤ v ∧ v < 256) (hne : v ≠ rd (WR ep fi bs) (k : Int)) : Pure.SC ((WR ep fi bs).set k v) ep fi = (bs.take n, ((WR ep fi (bs.take n)).length : Int), 0) := by
  rw [WR_take_len ep bs fi n hn] at h2
  have hsp := WR_split ep bs fi n _ hn rfl
  have hb := h.h4 _ (getD_mem hn)
  have hln : (bs.take n).length = n := by rw [List.length_take]; omega
  have hsq : numB (fi + (n : Int)) = true := by
    have h2' := h.h2; have h3 := h.h3
    simp [numB] at h2' ⊢; omega
  generalize hA : WR ep fi (bs.take n) = A at *
  generalize hR : WR ep (fi + (n : Int) + 1) (bs.drop (n + 1)) = R at *
  have hrl := REC_length ep (fi + (n : Int)) (bs.getD n [])
  have hset : (WR ep fi bs).set k v = A ++ ((REC ep (fi + (n : Int)) (bs.getD n [])).set (k - A.length) v ++ R) := by
    rw [hsp, List.set_append, if_neg (by omega), List.set_append, if_pos (by omega)]
  have hrd : rd (WR ep fi bs) (k : Int) = rd (REC ep (fi + (n : Int)) (bs.getD n [])) ((k - A.length : Nat) : Int) := by
    rw [rd_nat, rd_nat, hsp, List.getD_eq_getElem?_getD, List.getElem?_append_right (by omega), List.getElem?_append_left (by omega), ← List.getD_eq_getElem?_getD]
  rw [hset]
  have := h.SC n ((REC ep (fi + (n : Int)) (bs.getD n [])).set (k - A.length) v ++ R) (RD_turn ep (fi + (n : Int)) (bs.getD n []) R h.h1 hsq (by omega) (h.h5 _ (getD_mem hn)) (k - A.length) (by omega) (by omega) v hv (by rw [← hrd]; exact hne) _ _)
  rw [hA] at this
  exact this
end Go.Proofs.YtoehjojipmeagaaDoor.X
