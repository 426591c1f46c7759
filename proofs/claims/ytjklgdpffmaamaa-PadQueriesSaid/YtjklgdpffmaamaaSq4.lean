/- rel.fold, rel.folded, name.Labels, rel.Fold: what each call answers, for every string. -/
import Derived.Deep.RegionHeld3
import Derived.Deep.AppendLies
import Derived.Deep.LoopGhost
import Derived.Deep.CutBlock
import Derived.Test.YtjklgdpffmaamaaProg
import Derived.Below
import Derived.Deep.Draws
import Derived.Maps.AppendAt
import Derived.OwnWalk
import Derived.Laws.BytesArg
import Derived.Laws.MakeOwn
import Derived.Laws.OwnMore
import Derived.Deep.OwnRows
import Derived.Tactics
import Derived.Lib.ConvBytes
import Derived.Laws.Slices
import Derived.WalkKit
import Derived.KernelRfl
import Derived.RowKit3
import Derived.Deep.QuietTactic
import Derived.BigQuiet
import Derived.WideLaws
import Derived.Deep.DeepCutAuto
import Derived.Laws.Rows
import Derived.Lib.AppendStr
import Derived.ArgAppend
import Derived.Laws.IdiomCopy
import Derived.OrdersHeld
import Derived.Laws.BitsLemmas
import Derived.RowKit
import Derived.Test.YtjklgdpffmaamaaSq1
import Derived.Test.YtjklgdpffmaamaaSq2
import Derived.Test.YtjklgdpffmaamaaSq3
namespace Go.Proofs.Ytjklgdpffmaamaa.Fo
open Go.RowKit Go.PlainAid Go.Proofs.Ytjklgdpffmaamaa.Base Go.Proofs.Ytjklgdpffmaamaa.Oct Go.Proofs.Ytjklgdpffmaamaa.Sl Go.Proofs.Ytjklgdpffmaamaa.Nm
set_option linter.unusedVariables false
set_option linter.unusedSimpArgs false
def lowB (x : UInt8) : UInt8 := if 65 ≤ x.toNat ∧ x.toNat ≤ 90 then UInt8.ofNat (x.toNat + 32) else x
def foldS (s : ByteArray) : ByteArray := ⟨(s.data.toList.map lowB).toArray⟩
theorem foldS_size (s : ByteArray) : (foldS s).size = s.size := by unfold foldS; show ((s.data.toList.map lowB).toArray).size = s.data.size; simp
theorem low_nat (x : UInt8) : (lowB x).toNat = if 65 ≤ x.toNat ∧ x.toNat ≤ 90 then x.toNat + 32 else x.toNat := by
  unfold lowB
  split
  · rw [UInt8.toNat_ofNat']; omega
  · rfl
theorem foldc (x : UInt8) (w : World) : Calls Try.prog 100 #[.int .u8 (x.toNat : Int)] w fun e w' => e = .returned (.int .u8 ((lowB x).toNat : Int)) ∧ w' = w := by
  have hx : x.toNat < 256 := x.toNat_lt
  by_cases h : 65 ≤ x.toNat ∧ x.toNat ≤ 90
  · have e1 : lowB x = UInt8.ofNat (x.toNat + 32) := if_pos h
    have q1 : decide ((65 : Int) ≤ x.toNat) = true := by simp; omega
    have q2 : decide ((x.toNat : Int) ≤ 90) = true := by simp; omega
    have hn : (lowB x).toNat = x.toNat + 32 := by rw [low_nat, if_pos h]
    have hw : IntKind.u8.wrap ((x.toNat : Int) + 32) = ((lowB x).toNat : Int) := by
      rw [hn]
      show (((x.toNat : Int) + 32) % 256) = _
      omega
    go_enter Try.func100, Try.ntmps100
    go_wp2
    go_ret
    first
    | exact ⟨by rw [hw], rfl⟩
    | exact ⟨by rw [← hw]; rfl, rfl⟩
  · have e1 : lowB x = x := if_neg h
    by_cases h1 : 65 ≤ x.toNat
    · have q1 : decide ((65 : Int) ≤ x.toNat) = true := by simp; omega
      have q2 : decide ((x.toNat : Int) ≤ 90) = false := by simp; omega
      go_enter Try.func100, Try.ntmps100
      go_wp2
      go_ret
      exact ⟨by rw [e1]; rfl, rfl⟩
    · have q1 : decide ((65 : Int) ≤ x.toNat) = false := by simp; omega
      go_enter Try.func100, Try.ntmps100
      go_wp2
      go_ret
      exact ⟨by rw [e1]; rfl, rfl⟩
/-- The first i bytes folded. -/
def part (l : List UInt8) (i : Nat) : List UInt8 := (l.take i).map lowB ++ l.drop i
theorem part_length (l : List UInt8) (i : Nat) : (part l i).length = l.length := by unfold part; simp; omega
theorem part_get (l : List UInt8) (i : Nat) (h : i < l.length) : (part l i).getD i 0 = l.getD i 0 := by
  unfold part
  rw [List.getD_eq_getElem?_getD, List.getElem?_append_right (by simp; omega)]
  simp [List.getD_eq_getElem?_getD, Nat.min_eq_left (Nat.le_of_lt h)]
theorem part_set (l : List UInt8) (i : Nat) (h : i < l.length) : (part l i).set i (lowB (l.getD i 0)) = part l (i + 1) := by
  unfold part
  rw [List.drop_eq_getElem_cons h, List.take_succ_eq_append_getElem h, List.map_append]
  rw [List.set_append_right _ _ (by simp; omega)]
  have e : i - (List.map lowB (List.take i l)).length = 0 := by simp; omega
  rw [e]
  rw [List.set_cons_zero]
  simp [List.getD_eq_getElem?_getD, h]
theorem part_all (l : List UInt8) : part l l.length = l.map lowB := by unfold part; simp
set_option maxHeartbeats 2000000 in
theorem foldedc (l : ByteArray) (hl : l.size ≤ 255) (w : World) : Calls Try.prog 76 #[.string l] w fun e w' => e = .returned (.string (foldS l)) ∧ Below w.heap.size w w' := by
  have kc := fun w => Lib.run_convert_string_bytes (P := Try.prog) w 9 56 5 l Try.underlying9 Try.underlying56 Try.underlying5
  have hz : l.data.toList.length = l.size := by show _ = l.data.size; simp
  go_enter Try.func76, Try.ntmps76
  go_upto_region 2 with (fail)
  obtain ⟨Bm, hI, hz1⟩ := BRow.made w 5 l
  generalize Lib.bytesWorld w 5 l = w1 at *
  generalize grownCap w l.size 0 5 = cap at *
  obtain ⟨g, hg⟩ : ∃ g, g = w.heap.size := ⟨_, rfl⟩
  rw [← hg] at hI hz1 Bm ⊢
  have HG := Lib.hid (Nat.le_of_eq hg.symm)
  rw [hg] at Bm
  clear kc hg
  go_wp2_with fail
  go_loopg [4, 9] (l.size + 1) (fun k v4 v9 wr => ∃ i : Nat, v9 = .int .i64 i ∧ i + k = l.size + 1 ∧ i ≤ l.size ∧ BRow.Is wr 5 g (part l.data.toList i) ∧ Below w.heap.size w wr)
  case atStart => exact ⟨0, rfl, by omega, by omega, by simpa [part] using hI, Bm⟩
  case round =>
    obtain ⟨i, rfl, hk1, hk2, HI, HB⟩ := hrel
    have HI' := Lib.hid HI
    have HB' := Lib.hid HB
    by_cases h : i < l.size
    · have q : decide ((i : Int) < l.size) = true := by simp; omega
      have hi : i < (part l.data.toList i).length := by rw [part_length]; omega
      have ci := HI.cell i hi
      have fi := HI.free i hi
      rw [part_get _ _ (by omega)] at ci
      have kf := fun w => foldc (l.data.toList.getD i 0) w
      have HS := HI.set i hi (lowB (l.data.toList.getD i 0))
      rw [part_set _ _ (by omega)] at HS
      have HS' := Lib.hid HS
      have hin : (0 : Int) ≤ (i : Int) ∧ (i : Int) < (l.size : Int) := by omega
      clear HI HB HS
      generalize l.data.toList.getD i 0 = x at *
      go_wp2_with (go_at_call 100; refine (kf _).mono ?_; rintro e w2 ⟨rfl, rfl⟩)
      go_roundg (l.size - i)
      case measure => omega
      case rel => exact ⟨i + 1, rfl, by omega, by omega, HS'.out, HB'.out.setCell HG.out _⟩
    · have q : decide ((i : Int) < l.size) = false := by simp; omega
      have ei : i = l.data.toList.length := by omega
      rw [ei, part_all] at HI
      have kb := BRow.Is.back (P := Try.prog) HI 56 9 cap l.size Try.underlying56 Try.underlying5 Try.underlying9 (by rw [List.length_map]; exact hz.symm)
      clear HI ei
      go_wp2_with fail
      go_ret
      exact ⟨rfl, HB'.out⟩
/-- Where the labels of a name begin, and its end. -/
structure Pl (s : ByteArray) (ps : List Nat) : Prop where
  first : ps.getD 0 0 = 0
  pos : 0 < ps.length
  len : ps.length ≤ 255
  next : ∀ j, j + 1 < ps.length → ps.getD (j + 1) 0 = ps.getD j 0 + 1 + (bt s (ps.getD j 0)).toNat ∧ bt s (ps.getD j 0) ≤ 63 ∧ ps.getD (j + 1) 0 < s.size
  last : ps.getD (ps.length - 1) 0 + 1 = s.size ∧ bt s (ps.getD (ps.length - 1) 0) = 0
theorem pl_at (s : ByteArray) : ∀ d i, s.size - i ≤ d → nameAt s i = true → (placesAt s i).getD 0 0 = i ∧ 0 < (placesAt s i).length ∧ (placesAt s i).length + i ≤ s.size ∧
    (∀ j, j + 1 < (placesAt s i).length → (placesAt s i).getD (j + 1) 0 = (placesAt s i).getD j 0 + 1 + (bt s ((placesAt s i).getD j 0)).toNat ∧ bt s ((placesAt s i).getD j 0) ≤ 63 ∧ (placesAt s i).getD (j + 1) 0 < s.size) ∧
    ((placesAt s i).getD ((placesAt s i).length - 1) 0 + 1 = s.size ∧ bt s ((placesAt s i).getD ((placesAt s i).length - 1) 0) = 0) := by
  intro d
  induction d with
  | zero => intro i hd h; rw [nameAt_out (by omega)] at h; cases h
  | succ d ih =>
    intro i hd h
    by_cases hi : i < s.size
    · by_cases h0 : bt s i = 0
      · rw [nameAt_end hi h0] at h
        have := of_decide_eq_true h
        rw [placesAt_end hi h0]
        exact ⟨rfl, by simp, by simp; omega, fun j hj => by simp at hj, by simpa using this, by simpa using h0⟩
      · by_cases h1 : bt s i ≤ 63
        · rw [nameAt_next hi h0 h1] at h
          obtain ⟨a, b, c, e, f1, f2⟩ := ih _ (by omega) h
          rw [placesAt_next hi h0 h1]
          generalize placesAt s (i + 1 + (bt s i).toNat) = r at *
          have hlt : i + 1 + (bt s i).toNat < s.size := by omega
          refine ⟨rfl, by simp, by simp; omega, fun j hj => ?_, ?_, ?_⟩
          · cases j with
            | zero => exact ⟨by simpa using a, by simpa using h1, by show r.getD 0 0 < s.size; rw [a]; exact hlt⟩
            | succ j => simpa using e j (by simpa using hj)
          · obtain ⟨n, hn⟩ : ∃ n, r.length = n + 1 := ⟨r.length - 1, by omega⟩
            rw [List.length_cons, hn]
            rw [hn] at f1
            simpa using f1
          · obtain ⟨n, hn⟩ : ∃ n, r.length = n + 1 := ⟨r.length - 1, by omega⟩
            rw [List.length_cons, hn]
            rw [hn] at f2
            simpa using f2
        · rw [nameAt_bad hi (by omega)] at h; cases h
    · rw [nameAt_out (by omega)] at h; cases h
theorem pl {s : ByteArray} (h : nameB s = true) : Pl s (places s) := by
  unfold nameB at h
  rw [Bool.and_eq_true, decide_eq_true_iff] at h
  obtain ⟨a, b, c, e, f⟩ := pl_at s s.size 0 (by omega) h.2
  exact ⟨a, b, by unfold places; omega, e, f⟩
theorem own_lower {w : World} {b b' : Nat} {e : TypeId} {size n : Nat} {v : Value} {xs : List Value} (h : w.ownsRow b e size v n xs) (hb : b' ≤ b) : w.ownsRow b' e size v n xs := by
  refine ⟨h.1, ?_⟩
  rcases h.2 with ⟨h1, h2⟩ | ⟨g, cap, cur, h1, h2, r⟩
  · exact .inl ⟨h1, h2⟩
  · exact .inr ⟨g, cap, cur, h1, Nat.le_trans hb h2, r⟩
/-- A name's labels. -/
def labs (s : ByteArray) (ps : List Nat) (n : Nat) : List ByteArray := (List.range n).map fun j => s.extract (ps.getD j 0 + 1) (ps.getD (j + 1) 0)
theorem labs_snoc (s : ByteArray) (ps : List Nat) (n : Nat) : labs s ps (n + 1) = labs s ps n ++ [s.extract (ps.getD n 0 + 1) (ps.getD (n + 1) 0)] := by
  unfold labs; rw [List.range_succ, List.map_append]; rfl
def scells (xs : List ByteArray) : List Value := xs.map fun (k : ByteArray) => .string k
theorem info_str : (Try.prog.info? 9).map (fun i => (i.zero, i.size, i.bytes)) = some (some (.string ⟨#[]⟩), 1, 16) := by kernel_rfl
def LabelsPost (s : ByteArray) (w : World) (e : Ending) (w' : World) : Prop :=
  Below w.heap.size w w' ∧ (nameB s = false → ∃ v, e = .returned (.tuple #[v, .bool false])) ∧
  (nameB s = true → ∃ v, e = .returned (.tuple #[v, .bool true]) ∧ w'.ownsRow w.heap.size 9 1 v ((places s).length - 1) (scells (labs s (places s) ((places s).length - 1))))
set_option maxHeartbeats 2000000 in
set_option maxRecDepth 100000 in
theorem labelsc (s : ByteArray) (w : World) : Calls Try.prog 73 #[.string s] w (LabelsPost s w) := by
  have kp := places_any s w
  by_cases hn : nameB s = true
  case neg =>
    have hf : nameB s = false := by simpa using hn
    go_enter Try.func73, Try.ntmps73
    go_wp2_with fail
    refine kp.mono ?_
    rintro e w1 ⟨v, rfl, hb, _⟩
    rw [hf]
    clear kp
    go_wp2_with fail
    go_ret2
    exact ⟨hb, fun _ => ⟨_, rfl⟩, fun h => by rw [hf] at h; cases h⟩
  have HP := Lib.hid (pl hn)
  have HN := Lib.hid hn
  go_enter Try.func73, Try.ntmps73
  go_wp2_with fail
  refine kp.mono ?_
  rintro e w1 ⟨v, rfl, hb, ho⟩
  rw [hn]
  have own := ho hn
  clear kp ho hn
  go_wp2_with fail
  obtain ⟨hlp, hll⟩ : 0 < (places s).length ∧ (places s).length ≤ 255 := ⟨HP.out.pos, HP.out.len⟩
  obtain ⟨pg, pc, hv, hpb⟩ : ∃ g c, v = .slice (some ⟨g, 0, none⟩) (places s).length c ∧ w.heap.size ≤ g := by
    rcases own.2 with ⟨_, h0⟩ | ⟨g, cap, cur, hv, hg, _⟩
    · omega
    · exact ⟨g, cap, hv, hg⟩
  subst hv
  have hcell : ∀ j, j < (places s).length → w1.cell? ⟨pg, j, none⟩ = some (.int .i64 ((places s).getD j 0 : Nat)) := fun j hj => by
    have := own.cells (g := pg) rfl j (.int .i64 ((places s).getD j 0 : Nat)) (by simp [pcells, List.getElem?_eq_getElem hj, List.getD_eq_getElem?_getD])
    rwa [show (⟨pg, 0, none⟩ : Addr).add j = ⟨pg, j, none⟩ by unfold Addr.add; split <;> simp_all] at this
  have hpl : (places s).length ≤ pc := by
    rcases own.2 with ⟨h0, _⟩ | ⟨g, cap, cur, hv, _, _, hc, _⟩
    · cases h0
    · injection hv with _ _ hc'; omega
  have hlt := own.lt pg rfl
  have HC := Lib.hid hcell
  clear hcell own
  go_loopg [6, 7] ((places s).length + 1) (fun k v6 v7 wr => ∃ i : Nat, v7 = .int .i64 ((i + 1 : Nat) : Int) ∧ i + k = (places s).length + 1 ∧ i < (places s).length ∧ wr.ownsRow w1.heap.size 9 1 v6 i (scells (labs s (places s) i)) ∧ Below w1.heap.size w1 wr)
  case atStart => exact ⟨0, rfl, by omega, by omega, World.ownsRow_nil _ _ _ _, Below.refl _ _⟩
  case round =>
    obtain ⟨i, rfl, hk, hil, HO, HB⟩ := hrel
    have HB' := Lib.hid HB
    by_cases h : i + 1 < (places s).length
    · obtain ⟨i1, hi1⟩ : ∃ i1 : Nat, i1 = i + 1 := ⟨_, rfl⟩
      have q : decide ((i1 : Int) < (places s).length) = true := by simp; omega
      have c0 : wr.cell? ⟨pg, i, none⟩ = _ := (HB.cell hlt.2).trans (HC.out i hil)
      have c1 : wr.cell? ⟨pg, i1, none⟩ = _ := (HB.cell hlt.2).trans (HC.out i1 (by omega))
      obtain ⟨n1, n2, n3⟩ := HP.out.next i h
      have hsn := labs_snoc s (places s) i
      rw [← hi1] at hsn n1 n3 ⊢
      generalize (places s).getD i 0 = x at *
      generalize (places s).getD i1 0 = y at *
      have nb := bt_nonneg s x
      have m1 : (0 : Int) ≤ (i : Int) := by omega
      have m2 : (i : Int) < ((places s).length : Int) := by omega
      have m3 : (0 : Int) ≤ (i1 : Int) := by omega
      have m4 : (i1 : Int) < ((places s).length : Int) := by omega
      have m5 : (0 : Int) ≤ (x : Int) + 1 := by omega
      have m6 : (x : Int) + 1 ≤ (y : Int) := by omega
      have m7 : (y : Int) ≤ (s.size : Int) := by omega
      have m8 : x + 1 ≤ y := by omega
      have m9 : y ≤ s.size := by omega
      have ag : u6.ownBlock ≠ some pg := fun e => by have := (HO.lt pg e).1; omega
      have hsz := HB.size
      have HSN := Lib.hid hsn
      have HI1 := Lib.hid hi1
      obtain ⟨i0, hi0, hz0, hz1, hz2⟩ := info_parts info_str
      have b1 : i ≤ 255 := by omega
      have b2 : y ≤ s.size := by omega
      have k63 : i + 1 ≤ maxLen := by unfold maxLen; omega
      have kby : (i + 1) * 16 ≤ 140737488355328 := by omega
      have kb1 : w1.heap.size ≤ wr.heap.size + 1 := by omega
      have kpg : pg < wr.heap.size + 1 := by omega
      have e1 : IntKind.i64.wrap ((i1 : Int) - 1) = (i : Int) := by rw [IntWalk.i64_in _ (by omega)]; omega
      have hs255 : s.size ≤ 255 := by have := HN.out; unfold nameB at this; rw [Bool.and_eq_true, decide_eq_true_iff] at this; exact this.1
      have e2 : IntKind.i64.wrap ((x : Int) + 1) = (x : Int) + 1 := IntWalk.i64_in _ (by omega)
      clear hs255 hsn HB n1 n2 n3 nb hi1 hlp hll hpb hpl hlt b1 b2 m8 m9
      go_wp2_with fail
      go_region_held3 (fun w' => w'.cell? ⟨pg, i, none⟩ = some (.int .i64 (x : Int)) ∧ w'.cell? ⟨pg, i1, none⟩ = some (.int .i64 (y : Int)))
        (first
          | go_keep
          | (go_split_ands
             refine ⟨?_, ?_⟩
             · (rw [hgrow.cell_far _ (by simp; exact kpg) (Ne.symm ag)]; assumption)
             · (rw [hgrow.cell_far _ (by simp; exact kpg) (Ne.symm ag)]; assumption)))
        ((refine step_append_lies _ (by rfl) _ _ _ (by rfl) w1.heap.size 9 i0 _ 1 16 Try.underlying132 hi0 hz0 hz1 hz2 rfl (Nat.lt_succ_self 0) u6 i _ (by rfl) ((HO.alloc _).drew)
            ⟨wr.heap.size, 0, none⟩ 1 1 [.string (s.extract (x + 1) y)] (by rfl) (by rfl) (World.news_of_block (cs := #[.string (s.extract (x + 1) y)]) (t := 9) (fr := (0, 0)) (heap_alloc_new wr _)) (by simp [Value.oneCell'])
            (Nat.lt_succ_self 0) k63 kby (by simp; exact kb1) (wr.heap.size + 1) (by simp) ?_; intro gg cap w2 hown1 hgrow hat hlt2))
      go_wp2_with fail
      go_roundg ((places s).length - i)
      case measure => omega
      case rel =>
        refine ⟨i + 1, congrArg (Value.int .i64) (by have := HI1.out; rw [w64 (by omega) (by omega)]; omega), by omega, by have := HI1.out; omega, ?_, ?_⟩
        · have hq := HSN.out
          rw [HI1.out] at hq
          rw [hq]
          simpa [scells] using hown1
        · exact (((HB'.out.drew).alloc hsz _).grown hgrow (by simp; omega) (fun k hk => (HO.lt k hk).1))
    · have q : decide (((i + 1 : Nat) : Int) < (places s).length) = false := by simp; omega
      go_wp2_with fail
      go_ret2
      refine ⟨hb.trans (HB'.out.mono hb.size), ?_, ?_⟩
      · intro hf
        rw [HN.out] at hf
        cases hf
      · intro _
        refine ⟨_, rfl, ?_⟩
        obtain rfl : i = (places s).length - 1 := by omega
        exact own_lower HO hb.size
theorem pre_step (s : ByteArray) (p q : Nat) (h1 : p + 1 ≤ q) (hq : q ≤ s.size) (x : UInt8) (hx : s.data.toList.getD p 0 = x) (hl : x.toNat ≤ 63) :
    (s.data.toList.take q).map lowB = ((s.data.toList.take p).map lowB ++ [x]) ++ (foldS (s.extract (p + 1) q)).data.toList := by
  have hsz : s.data.toList.length = s.size := by show _ = s.data.size; simp
  have hp : p < s.data.toList.length := by omega
  have ex : lowB x = x := if_neg (by omega)
  have e1 : (foldS (s.extract (p + 1) q)).data.toList = ((s.data.toList.drop (p + 1)).take (q - (p + 1))).map lowB := by
    unfold foldS
    simp [ByteArray.data_extract, List.take_drop]
  rw [e1]
  have e2 : s.data.toList.take q = s.data.toList.take p ++ [x] ++ (s.data.toList.drop (p + 1)).take (q - (p + 1)) := by
    have hx' : s.data.toList[p] = x := by rw [← hx, List.getD_eq_getElem?_getD, List.getElem?_eq_getElem hp]; rfl
    rw [← hx', List.append_assoc, List.singleton_append]
    conv => lhs; rw [show q = p + (1 + (q - (p + 1))) by omega]
    rw [List.take_add, List.drop_eq_getElem_cons hp, Nat.add_comm 1, List.take_succ_cons]
  rw [e2]
  simp [ex]
/-- rel.Fold: a name with small letters; the empty string for what is no name. -/
def foldN (s : ByteArray) : ByteArray := if nameB s = true then foldS s else ⟨#[]⟩
set_option maxHeartbeats 2000000 in
set_option maxRecDepth 100000 in
theorem foldNc (s : ByteArray) (w : World) : Calls Try.prog 46 #[.string s] w fun e w' => e = .returned (.string (foldN s)) ∧ Below w.heap.size w w' := by
  have kl := labelsc s w
  by_cases hn : nameB s = true
  case neg =>
    have hf : nameB s = false := by simpa using hn
    go_enter Try.func46, Try.ntmps46
    go_wp2_with fail
    refine kl.mono ?_
    rintro e w1 ⟨hb, h1, _⟩
    obtain ⟨v, rfl⟩ := h1 hf
    clear kl
    go_wp2_with fail
    go_ret
    exact ⟨by unfold foldN; rw [if_neg hn]; rfl, hb⟩
  have HP := Lib.hid (pl hn)
  have HN := Lib.hid hn
  go_enter Try.func46, Try.ntmps46
  go_wp2_with fail
  refine kl.mono ?_
  rintro e w1 ⟨hb, _, h2⟩
  obtain ⟨v, rfl, own⟩ := h2 hn
  clear kl h2 hn
  obtain ⟨hlp, hll⟩ : 0 < (places s).length ∧ (places s).length ≤ 255 := ⟨HP.out.pos, HP.out.len⟩
  obtain ⟨n, hpn⟩ : ∃ n, (places s).length = n + 1 := ⟨(places s).length - 1, by omega⟩
  rw [hpn, Nat.add_sub_cancel] at own
  have hn255 : n ≤ 255 := by omega
  have hs255 : s.size ≤ 255 := by have := HN.out; unfold nameB at this; rw [Bool.and_eq_true, decide_eq_true_iff] at this; exact this.1
  obtain ⟨A, c, rfl, hA⟩ : ∃ A c, v = .slice A n c ∧ (n = 0 ∨ n ≤ c ∧ ∃ g, A = some ⟨g, 0, none⟩ ∧ g < w1.heap.size ∧ ∀ j, j < n → w1.cell? ⟨g, j, none⟩ = some (.string (s.extract ((places s).getD j 0 + 1) ((places s).getD (j + 1) 0)))) := by
    rcases own.2 with ⟨hv, h0⟩ | ⟨g, cap, cur, hv, r1, r2, r3, _⟩
    · exact ⟨none, 0, by rw [h0]; exact hv, .inl h0⟩
    · refine ⟨_, _, hv, .inr ⟨r3, g, rfl, (own.lt g (by rw [hv]; rfl)).2, fun j hj => ?_⟩⟩
      have := own.cells (g := g) (by rw [hv]; rfl) j (.string (s.extract ((places s).getD j 0 + 1) ((places s).getD (j + 1) 0))) (by simp [scells, labs, hj])
      rwa [show (⟨g, 0, none⟩ : Addr).add j = ⟨g, j, none⟩ by unfold Addr.add; split <;> simp_all] at this
  clear own
  go_upto_region 5 with (fail)
  have HA := Lib.hid hA
  have HPN := Lib.hid hpn
  clear hA hpn hlp
  have B2 : Below w1.heap.size w1 (w1.alloc (.cells #[.pointer none, .slice none 0 0] 137)) := (Below.refl _ _).alloc (Nat.le_refl _) _
  have IB := Bld.fresh w1
  generalize w1.alloc (.cells #[.pointer none, .slice none 0 0] 137) = w2 at *
  have hsb := hb.size
  obtain ⟨gB, hgB⟩ : ∃ g, g = w1.heap.size := ⟨_, rfl⟩
  rw [show Bld.Is w2 w1.heap.size w1.heap.size [] = Bld.Is w2 w1.heap.size gB [] by rw [hgB]] at IB
  rw [← hgB]
  clear hgB
  go_wp2_with fail
  go_loopg [7, 17] (n + 1) (fun k v7 v17 wr => ∃ i : Nat, v17 = .int .i64 (i : Int) ∧ i + k = n + 1 ∧ i ≤ n ∧ Bld.Is wr w1.heap.size gB ((s.data.toList.take ((places s).getD i 0)).map lowB) ∧ Below w1.heap.size w1 wr)
  case atStart => exact ⟨0, rfl, by omega, by omega, by rw [HP.out.first]; exact IB, B2⟩
  case round =>
    obtain ⟨i, rfl, hk, hil, HI, HB⟩ := hrel
    have HB' := Lib.hid HB
    have HI' := Lib.hid HI
    clear HI
    by_cases h : i < n
    · have q : decide ((i : Int) < (n : Int)) = true := by simp; omega
      obtain ⟨hnc, g, rfl, hg, hcell⟩ : n ≤ c ∧ ∃ g, A = some ⟨g, 0, none⟩ ∧ g < w1.heap.size ∧ ∀ j, j < n → w1.cell? ⟨g, j, none⟩ = some (.string (s.extract ((places s).getD j 0 + 1) ((places s).getD (j + 1) 0))) := by
        rcases HA.out with h0 | h1
        · omega
        · exact h1
      have c0 : wr.cell? ⟨g, i, none⟩ = _ := (HB.cell hg).trans (hcell i h)
      have hpn := HPN.out
      obtain ⟨n1, n2, n3⟩ := HP.out.next i (by omega)
      clear hcell hpn
      generalize (places s).getD i 0 = x at *
      generalize hy : (places s).getD (i + 1) 0 = y at *
      have nb := bt_nonneg s x
      have bd := bt_data s x
      obtain ⟨u, hu⟩ : ∃ u, s.data.toList.getD x 0 = u := ⟨_, rfl⟩
      rw [hu] at bd
      have hu63 : u.toNat ≤ 63 := by omega
      have HST := Lib.hid (pre_step s x y (by omega) (by omega) u hu hu63)
      have hls : (s.extract (x + 1) y).size = u.toNat := by rw [ByteArray.size_extract]; omega
      generalize s.extract (x + 1) y = l at *
      have kf := foldedc l (by omega)
      have e1 : IntKind.u8.wrap (l.size : Int) = (u.toNat : Int) := by rw [hls]; show ((u.toNat : Int) % 256) = _; omega
      have hlen : ((s.data.toList.take x).map lowB).length ≤ 255 := by rw [List.length_map, List.length_take]; omega
      have m1 : (0 : Int) ≤ (i : Int) := by omega
      have HX := Lib.hid hlen
      have HL := Lib.hid hls
      have HU := Lib.hid hu63
      have HY := Lib.hid hy
      have hBr := HB.size
      clear n1 n2 n3 nb bd hu hu63 hlen hls hy HB
      go_wp2_with fail
      refine (Bld.bytec w1.heap.size gB _ u wr HI'.out (by have := HX.out; omega) hBr).mono ?_
      rintro e w3 ⟨rfl, I3, B3⟩
      have B3' := HB'.out.trans B3
      have I3' := Lib.hid I3
      clear I3
      go_wp2_with fail
      refine (kf _).mono ?_
      rintro e w4 ⟨rfl, b4⟩
      have B4 := B3'.trans (b4.mono B3'.size)
      have I4 := Lib.hid (I3'.out.below b4)
      have hB4 := B4.size
      clear b4
      go_wp2_with fail
      refine (Bld.stringc w1.heap.size gB _ (foldS l) w4 I4.out (by have h1 := HX.out; have h2 := HL.out; have h3 := HU.out; rw [foldS_size, List.length_append]; simp only [List.length_cons, List.length_nil]; omega) hB4).mono ?_
      rintro e w5 ⟨rfl, I5, B5⟩
      have B5' := B4.trans B5
      have I5' := Lib.hid I5
      clear I5 B5 B3 B3' B4
      go_wp2_with fail
      go_roundg (n - i)
      case measure => omega
      case rel =>
        refine ⟨i + 1, by first | rfl | exact congrArg (Value.int .i64) (by rw [w64 (by omega) (by omega)]; omega), by omega, by omega, ?_, B5'⟩
        rw [HY.out, HST.out]
        exact I5'.out
    · have q : decide ((i : Int) < (n : Int)) = false := by simp; omega
      obtain rfl : i = n := by omega
      have hlen : ((s.data.toList.take ((places s).getD i 0)).map lowB).length ≤ 255 := by rw [List.length_map, List.length_take, len_data]; omega
      have hBr := HB.size
      have HX := Lib.hid hlen
      clear hlen HB
      go_wp2_with fail
      refine (Bld.stringc w1.heap.size gB _ ⟨#[0]⟩ wr HI'.out (by have h1 := HX.out; show _ + 1 ≤ _; omega) hBr).mono ?_
      rintro e w5 ⟨rfl, I5, B5⟩
      have B5' := HB'.out.trans B5
      have I5' := Lib.hid I5
      have e1 : ((s.data.toList.take ((places s).getD i 0)).map lowB) ++ (⟨#[0]⟩ : ByteArray).data.toList = s.data.toList.map lowB := by
        obtain ⟨a1, a2⟩ := HP.out.last
        rw [HPN.out, Nat.add_sub_cancel] at a1 a2
        generalize (places s).getD i 0 = x at *
        have hz := len_data s
        have hx : x < s.data.toList.length := by omega
        have bd := bt_data s x
        rw [a2, List.getD_eq_getElem?_getD, List.getElem?_eq_getElem hx] at bd
        have hu : s.data.toList[x] = 0 := by
          apply UInt8.toNat_inj.1
          have : ((s.data.toList[x]).toNat : Int) = 0 := bd.symm
          simpa using this
        have e2 : s.data.toList = s.data.toList.take x ++ [0] := by
          conv => lhs; rw [← List.take_append_drop x s.data.toList, List.drop_eq_getElem_cons hx, hu, List.drop_eq_nil_of_le (by omega)]
        conv => rhs; rw [e2]
        rw [List.map_append]
        rfl
      have kst : Calls Try.prog 77 #[.pointer (some ⟨gB, 0, none⟩)] w5 fun e w' => e = .returned (.string (foldN s)) ∧ Below w1.heap.size w5 w' := by
        have hI := I5'.out
        rw [e1] at hI
        have := Bld.strc w1.heap.size gB _ w5 hI B5'.size
        unfold foldN
        rw [if_pos HN.out]
        exact this
      clear I5 B5 e1
      go_wp2_with fail
      refine kst.mono ?_
      rintro e w6 ⟨rfl, B6⟩
      have B6' := B5'.trans B6
      clear B6 kst
      go_wp2_with fail
      go_ret
      exact ⟨rfl, hb.trans (B6'.mono hb.size)⟩
end Go.Proofs.Ytjklgdpffmaamaa.Fo

namespace Go.Proofs.Ytjklgdpffmaamaa.Pad
open Go.RowKit Go.PlainAid Go.Proofs.Ytjklgdpffmaamaa.Base Go.Proofs.Ytjklgdpffmaamaa.Oct Go.Proofs.Ytjklgdpffmaamaa.Nm Go.Proofs.Ytjklgdpffmaamaa.Wm Go.Proofs.Ytjklgdpffmaamaa.OptH Go.Proofs.Ytjklgdpffmaamaa.Fo
open Go.Proofs.YtjklgdpffmaamaaW.PrintWords (blk_cell blk_below blk_put blk_frozen blk_ne blk_new blk_lt blk_grown blk_alloc)
set_option linter.unusedVariables false
set_option linter.unusedSimpArgs false
theorem one_q {w : World} {b : Nat} {q : Qn} (h : w.heap[b]? = some (.cells #[.string q.name, .int .i64 q.type, .int .i64 q.cls] 40 (0, 0))) : QCells w (some ⟨b, 0, none⟩) [q] :=
  .inr ⟨_, rfl, fun j hj => by
    obtain rfl : j = 0 := by simpa using hj
    exact ⟨(blk_cell h 0).trans rfl, (blk_cell h 1).trans rfl, (blk_cell h 2).trans rfl⟩⟩
def qMsg (id : Int) (n : ByteArray) (t : Int) : MsgV := msgOf ⟨id, false, 0, false, false, false, false, 0, 0⟩ [⟨foldN n, t, 1⟩] [] [] []
def fineB (id : Int) (n : ByteArray) (t : Int) : Bool := decide (0 ≤ id) && decide (id ≤ 65535) && nameB n && decide (1 ≤ t) && decide (t ≤ 65535)
def queryS (id : Int) (n : ByteArray) (t : Int) : ByteArray := if fineB id n t = true then padS (qMsg id n t) 128 else ⟨#[]⟩
def queryE (id : Int) (n : ByteArray) (t : Int) : Int := if fineB id n t = true then 0 else 1000
set_option maxHeartbeats 4000000 in
set_option maxRecDepth 100000 in
theorem queryc (id : Int) (n : ByteArray) (t : Int) (w : World) : Calls Try.prog 24 #[.int .i64 id, .agg #[.string n, .int .i64 t]] w fun e w' => e = .returned (.tuple #[.string (queryS id n t), .int .i64 (queryE id n t)]) ∧ Below w.heap.size w w' := by
  have Bx : Below w.heap.size w (w.alloc (.cells #[.string n, .int .i64 t] 43)) := (Below.refl _ _).alloc (Nat.le_refl _) _
  have bS := blk_new w (.cells #[.string n, .int .i64 t] 43)
  have km := fun w => may n w
  have bad : ∀ {w' : World}, fineB id n t = false → Below w.heap.size w w' → (Ending.returned (.tuple #[.string ⟨#[]⟩, .int .i64 1000]) = .returned (.tuple #[.string (queryS id n t), .int .i64 (queryE id n t)]) ∧ Below w.heap.size w w') := by
    intro w' hf hb
    unfold queryS queryE
    rw [if_neg (by rw [hf]; decide), if_neg (by rw [hf]; decide)]
    exact ⟨rfl, hb⟩
  by_cases h0 : id < 0
  · have q0 : decide (id < 0) = true := decide_eq_true h0
    have hf : fineB id n t = false := by unfold fineB; rw [decide_eq_false (show ¬ 0 ≤ id by omega)]; rfl
    have HF := Lib.hid hf
    clear h0 hf
    go_enter Try.func24, Try.ntmps24
    go_wp2_with fail
    go_ret2
    exact bad HF.out Bx
  have q0 : decide (id < 0) = false := decide_eq_false h0
  by_cases h1 : 65535 < id
  · have q1 : decide (65535 < id) = true := decide_eq_true h1
    have hf : fineB id n t = false := by unfold fineB; rw [decide_eq_false (show ¬ id ≤ 65535 by omega)]; simp
    have HF := Lib.hid hf
    clear h0 h1 hf
    go_enter Try.func24, Try.ntmps24
    go_wp2_with fail
    go_ret2
    exact bad HF.out Bx
  have q1 : decide (65535 < id) = false := decide_eq_false h1
  have hbig := Lib.hid (show 0 ≤ id ∧ id ≤ 65535 by omega)
  clear h0 h1
  by_cases hn : nameB n = true
  case neg =>
    have hn : nameB n = false := by simpa using hn
    have hf : fineB id n t = false := by unfold fineB; rw [hn]; simp
    have HF := Lib.hid hf
    rw [hn] at km
    clear hf hn
    have s0 : (w.alloc (.cells #[.string n, .int .i64 t] 43)).cell? ⟨w.heap.size, 0, none⟩ = some (.string n) := (blk_cell bS 0).trans rfl
    go_enter Try.func24, Try.ntmps24
    go_wp2_with fail
    refine (km _).mono ?_
    rintro e w2 ⟨rfl, hb⟩
    replace Bx := Bx.trans (hb.mono Bx.size)
    clear hb
    go_wp2_with fail
    go_ret2
    exact bad HF.out Bx
  rw [hn] at km
  have HN := Lib.hid hn
  clear hn
  go_enter Try.func24, Try.ntmps24
  go_upto_region 1 with (fail)
  generalize w.alloc (.cells #[.string n, .int .i64 t] 43) = w1 at *
  have s0 : w1.cell? ⟨w.heap.size, 0, none⟩ = some (.string n) := (blk_cell bS 0).trans rfl
  go_wp2_with fail
  refine (km _).mono ?_
  rintro e w2 ⟨rfl, hb⟩
  replace Bx := Bx.trans (hb.mono Bx.size)
  replace bS := blk_below bS hb
  clear hb s0 km
  have s0 : w2.cell? ⟨w.heap.size, 0, none⟩ = some (.string n) := (blk_cell bS 0).trans rfl
  have s1 : w2.cell? ⟨w.heap.size, 1, none⟩ = some (.int .i64 t) := (blk_cell bS 1).trans rfl
  by_cases h0 : t < 1
  · have q2 : decide (t < 1) = true := decide_eq_true h0
    have hf : fineB id n t = false := by unfold fineB; rw [decide_eq_false (show ¬ 1 ≤ t by omega)]; simp
    have HF := Lib.hid hf
    clear h0 hf
    go_wp2_with fail
    go_ret2
    exact bad HF.out Bx
  have q2 : decide (t < 1) = false := decide_eq_false h0
  by_cases h1 : 65535 < t
  · have q3 : decide (65535 < t) = true := decide_eq_true h1
    have hf : fineB id n t = false := by unfold fineB; rw [decide_eq_false (show ¬ t ≤ 65535 by omega)]; simp
    have HF := Lib.hid hf
    clear h0 h1 hf
    go_wp2_with fail
    go_ret2
    exact bad HF.out Bx
  have q3 : decide (65535 < t) = false := decide_eq_false h1
  have hf : fineB id n t = true := by
    have := hbig.out
    unfold fineB
    rw [HN.out, decide_eq_true this.1, decide_eq_true this.2, decide_eq_true (show 1 ≤ t by omega), decide_eq_true (show t ≤ 65535 by omega)]
    rfl
  have e1 : queryS id n t = padS (qMsg id n t) 128 := if_pos hf
  have e2 : queryE id n t = 0 := if_pos hf
  have HE := Lib.hid (And.intro e1 e2)
  clear h0 h1 hf e1 e2 bad
  go_upto_region 3 with (fail)
  have Bd : Below w.heap.size w w2.drew := Bx.drew
  have bd : w2.drew.heap[w.heap.size]? = _ := bS
  have d0 : w2.drew.cell? ⟨w.heap.size, 0, none⟩ = some (.string n) := s0
  have d1 : w2.drew.cell? ⟨w.heap.size, 1, none⟩ = some (.int .i64 t) := s1
  have kf := fun w => foldNc n w
  go_cut [6] (fun v6 wc => ∃ gq, v6 = .pointer (some ⟨gq, 0, none⟩) ∧ wc.heap[gq]? = some (.cells #[.string (foldN n), .int .i64 t, .int .i64 1] 40 (0, 0)) ∧ Below w.heap.size w wc)
  case first =>
    have hne1 : ¬ w.heap.size = w2.heap.size := Nat.ne_of_lt (blk_lt bS)
    have hne1' : ¬ w2.heap.size = w.heap.size := fun e => hne1 e.symm
    have B0 : Below w2.heap.size w2 (w2.alloc (.cells #[.string ⟨#[]⟩, .int .i64 0, .int .i64 0] 40)) := (Below.refl _ _).alloc (Nat.le_refl _) _
    have bq0 := blk_new w2 (.cells #[.string ⟨#[]⟩, .int .i64 0, .int .i64 0] 40)
    have BdB : Below w.heap.size w (w2.alloc (.cells #[.string ⟨#[]⟩, .int .i64 0, .int .i64 0] 40)).drew := (Bx.trans (B0.mono Bx.size)).drew
    have bdB : (w2.alloc (.cells #[.string ⟨#[]⟩, .int .i64 0, .int .i64 0] 40)).drew.heap[w.heap.size]? = _ := blk_alloc bS _
    have bqB : (w2.alloc (.cells #[.string ⟨#[]⟩, .int .i64 0, .int .i64 0] 40)).drew.heap[w2.heap.size]? = _ := bq0
    go_region_held3 (fun w' => w'.cell? ⟨w.heap.size, 0, none⟩ = some (.string n) ∧ w'.cell? ⟨w.heap.size, 1, none⟩ = some (.int .i64 t))
      (first | go_keep | (go_split_ands; refine ⟨?_, ?_⟩ <;> assumption))
      (first
        | (go_at_call 46; with_reducible refine (kf w2.drew).mono ?_; rintro e w' ⟨rfl, hb⟩; have Bd := Bd.trans (hb.mono Bd.size); have bd := blk_below bd hb; have d0 : w'.cell? ⟨w.heap.size, 0, none⟩ = some (.string n) := (blk_cell bd 0).trans rfl; have d1 : w'.cell? ⟨w.heap.size, 1, none⟩ = some (.int .i64 t) := (blk_cell bd 1).trans rfl; have hne2 : ¬ w.heap.size = w'.heap.size := Nat.ne_of_lt (blk_lt bd))
        | (go_at_call 46; with_reducible refine (kf (w2.alloc (.cells #[.string ⟨#[]⟩, .int .i64 0, .int .i64 0] 40)).drew).mono ?_; rintro e w' ⟨rfl, hb⟩; have Bd := BdB.trans (hb.mono BdB.size); have bd := blk_below bdB hb; have bq := blk_below bqB hb; have d0 : w'.cell? ⟨w.heap.size, 0, none⟩ = some (.string n) := (blk_cell bd 0).trans rfl; have d1 : w'.cell? ⟨w.heap.size, 1, none⟩ = some (.int .i64 t) := (blk_cell bd 1).trans rfl; have p0 : w'.cell? ⟨w2.heap.size, 0, none⟩ = some (.string ⟨#[]⟩) := (blk_cell bq 0).trans rfl; have p1 : w'.cell? ⟨w2.heap.size, 1, none⟩ = some (.int .i64 0) := (blk_cell bq 1).trans rfl; have p2 : w'.cell? ⟨w2.heap.size, 2, none⟩ = some (.int .i64 0) := (blk_cell bq 2).trans rfl; have g0 := blk_frozen bq 0; have g1 := blk_frozen bq 1; have g2 := blk_frozen bq 2))
    · try go_wp2_with fail
      go_meet
      case rel => exact ⟨w'.heap.size, rfl, blk_new w' _, Bd.alloc Bd.size _⟩
    · try go_wp2_with fail
      go_meet
      case rel =>
        have b3 := blk_put (blk_put (blk_put bq 0 (.string (foldN n)) rfl) 1 (.int .i64 t) rfl) 2 (.int .i64 1) rfl
        exact ⟨w2.heap.size, rfl, by simpa using b3, ((Bd.setCell (p := ⟨w2.heap.size, 0, none⟩) Bx.size _).setCell (p := ⟨w2.heap.size, 1, none⟩) Bx.size _).setCell (p := ⟨w2.heap.size, 2, none⟩) Bx.size _⟩
  case rest =>
    obtain ⟨gq, rfl, bq, Bq⟩ := hcut
    have k0 : wc.cell? ⟨gq, 0, none⟩ = some (.string (foldN n)) := (blk_cell bq 0).trans rfl
    have k1 : wc.cell? ⟨gq, 1, none⟩ = some (.int .i64 t) := (blk_cell bq 1).trans rfl
    have k2 : wc.cell? ⟨gq, 2, none⟩ = some (.int .i64 1) := (blk_cell bq 2).trans rfl
    have B1 := Bq.alloc Bq.size (.cells #[.string (foldN n), .int .i64 t, .int .i64 1] 40)
    have kp := paddedc ⟨⟨id, false, 0, false, false, false, false, 0, 0⟩, some ⟨wc.heap.size, 0, none⟩, 1, [⟨foldN n, t, 1⟩], none, 0, [], none, 0, [], none, 0, []⟩ 128 (by decide) (by decide) (wc.alloc (.cells #[.string (foldN n), .int .i64 t, .int .i64 1] 40))
      ⟨one_q (q := ⟨foldN n, t, 1⟩) (blk_new wc _), .inl rfl, .inl rfl, .inl rfl, Nat.le_refl _, Nat.le_refl _, Nat.le_refl _, Nat.le_refl _, (by intro r hr; cases hr), (by intro r hr; cases hr), (by intro r hr; cases hr)⟩ (Nat.zero_le _)
    have eS : padS ⟨⟨id, false, 0, false, false, false, false, 0, 0⟩, some ⟨wc.heap.size, 0, none⟩, 1, [⟨foldN n, t, 1⟩], none, 0, [], none, 0, [], none, 0, []⟩ 128 = padS (qMsg id n t) 128 := rfl
    rw [eS] at kp
    clear eS bq bS Bx Bd bd d0 d1 s0 s1
    generalize padS (qMsg id n t) 128 = ps at *
    generalize padE _ 128 = pe at kp
    go_wp2_with fail
    refine kp.mono ?_
    rintro e w5 ⟨rfl, hb⟩
    have B5 := B1.trans (hb.mono B1.size)
    clear hb kp
    go_wp2_with fail
    go_ret2
    refine ⟨?_, B5⟩
    rw [HE.out.1, HE.out.2]
    rfl
end Go.Proofs.Ytjklgdpffmaamaa.Pad

namespace Go.Proofs.Ytjklgdpffmaamaa.Pad
open Go.RowKit Go.PlainAid Go.Proofs.Ytjklgdpffmaamaa.Base Go.Proofs.Ytjklgdpffmaamaa.Oct Go.Proofs.Ytjklgdpffmaamaa.Wm Go.Proofs.Ytjklgdpffmaamaa.OptH
open Go.Proofs.YtjklgdpffmaamaaW.PrintWords (blk_cell blk_below blk_put blk_frozen blk_ne blk_new blk_lt blk_grown blk_alloc)
set_option linter.unusedVariables false
set_option linter.unusedSimpArgs false
/-- A message cut short. -/
abbrev shortM (m : MsgV) : MsgV := ⟨⟨m.h.id, m.h.qr, m.h.op, m.h.aa, true, m.h.rd, m.h.ra, m.h.z, m.h.rc⟩, m.Aq, m.cq, m.qs, none, 0, [], none, 0, [], none, 0, []⟩
theorem short_lies {m : MsgV} {w : World} (h : m.Lies w) : (shortM m).Lies w :=
  ⟨h.q, .inl rfl, .inl rfl, .inl rfl, h.lq, Nat.le_refl _, Nat.le_refl _, Nat.le_refl _, (by intro r hr; cases hr), (by intro r hr; cases hr), (by intro r hr; cases hr)⟩
abbrev fn (f : Nat) (b : Nat) : Value := .func (.func f) #[] #[.pointer (some ⟨b, 0, none⟩)]
abbrev fns (edns : Bool) (gm gs : Nat) : Array Value := if edns = true then #[fn 83 gm, fn 84 gs, fn 85 gs] else #[fn 81 gm, fn 82 gs]
abbrev nF (edns : Bool) : Nat := if edns = true then 3 else 2
def FormsPost (m : MsgV) (edns : Bool) (w : World) (e : Ending) (w' : World) : Prop :=
  ∃ gm gs g, e = .returned (.slice (some ⟨g, 0, none⟩) (nF edns) (nF edns)) ∧ w'.heap[gm]? = some (.cells m.cells 27 (0, 0)) ∧ w'.heap[gs]? = some (.cells (shortM m).cells 27 (0, 0)) ∧ w'.heap[g]? = some (.cells (fns edns gm gs) 103 (0, 0)) ∧ Below w.heap.size w w'
set_option maxHeartbeats 4000000 in
set_option maxRecDepth 100000 in
theorem formsc (m : MsgV) (edns : Bool) (w : World) : Calls Try.prog 55 #[.agg m.cells, .bool edns] w fun e w' => FormsPost m edns w e w' := by
  have Bx : Below w.heap.size w (w.alloc (.cells m.cells 27)) := (Below.refl _ _).alloc (Nat.le_refl _) _
  have bM := blk_new w (.cells m.cells 27)
  go_enter Try.func55, Try.ntmps55
  go_upto_region 1 with (fail)
  generalize w.alloc (.cells m.cells 27) = w1 at *
  have x0 : w1.cell? ⟨w.heap.size, 0, none⟩ = some (.int .i64 m.h.id) := (blk_cell bM 0).trans rfl
  have x1 : w1.cell? ⟨w.heap.size, 1, none⟩ = some (.bool m.h.qr) := (blk_cell bM 1).trans rfl
  have x2 : w1.cell? ⟨w.heap.size, 2, none⟩ = some (.int .i64 m.h.op) := (blk_cell bM 2).trans rfl
  have x3 : w1.cell? ⟨w.heap.size, 3, none⟩ = some (.bool m.h.aa) := (blk_cell bM 3).trans rfl
  have x4 : w1.cell? ⟨w.heap.size, 4, none⟩ = some (.bool m.h.tc) := (blk_cell bM 4).trans rfl
  have x5 : w1.cell? ⟨w.heap.size, 5, none⟩ = some (.bool m.h.rd) := (blk_cell bM 5).trans rfl
  have x6 : w1.cell? ⟨w.heap.size, 6, none⟩ = some (.bool m.h.ra) := (blk_cell bM 6).trans rfl
  have x7 : w1.cell? ⟨w.heap.size, 7, none⟩ = some (.int .i64 m.h.z) := (blk_cell bM 7).trans rfl
  have x8 : w1.cell? ⟨w.heap.size, 8, none⟩ = some (.int .i64 m.h.rc) := (blk_cell bM 8).trans rfl
  have x9 : w1.cell? ⟨w.heap.size, 9, none⟩ = some (.slice m.Aq m.qs.length m.cq) := (blk_cell bM 9).trans rfl
  have x10 : w1.cell? ⟨w.heap.size, 10, none⟩ = some (.slice m.Aa m.an.length m.ca) := (blk_cell bM 10).trans rfl
  have x11 : w1.cell? ⟨w.heap.size, 11, none⟩ = some (.slice m.An m.ns.length m.cn) := (blk_cell bM 11).trans rfl
  have x12 : w1.cell? ⟨w.heap.size, 12, none⟩ = some (.slice m.Ar m.ar.length m.cr) := (blk_cell bM 12).trans rfl
  have B2 := Bx.alloc Bx.size (.cells m.cells 27)
  have bM2 := blk_alloc bM (.cells m.cells 27)
  have bS2 := blk_new w1 (.cells m.cells 27)
  go_upto_region 2 with (fail)
  generalize w1.alloc (.cells #[.int .i64 m.h.id, .bool m.h.qr, .int .i64 m.h.op, .bool m.h.aa, .bool m.h.tc, .bool m.h.rd, .bool m.h.ra, .int .i64 m.h.z, .int .i64 m.h.rc, .slice m.Aq m.qs.length m.cq, .slice m.Aa m.an.length m.ca, .slice m.An m.ns.length m.cn, .slice m.Ar m.ar.length m.cr] 27) = w2 at *
  obtain ⟨gs, hgs⟩ : ∃ gs, gs = w1.heap.size := ⟨_, rfl⟩
  have hge : w.heap.size ≤ gs := by rw [hgs]; exact Bx.size
  have hne : w.heap.size ≠ gs := by rw [hgs]; exact Nat.ne_of_lt (blk_lt bM)
  rw [← hgs] at bS2 ⊢
  clear x0 x1 x2 x3 x4 x5 x6 x7 x8 x9 x10 x11 x12
  clear hgs bM Bx
  have y0 : w2.cell? ⟨gs, 0, none⟩ = some (.int .i64 m.h.id) := (blk_cell bS2 0).trans rfl
  have y1 : w2.cell? ⟨gs, 1, none⟩ = some (.bool m.h.qr) := (blk_cell bS2 1).trans rfl
  have y2 : w2.cell? ⟨gs, 2, none⟩ = some (.int .i64 m.h.op) := (blk_cell bS2 2).trans rfl
  have y3 : w2.cell? ⟨gs, 3, none⟩ = some (.bool m.h.aa) := (blk_cell bS2 3).trans rfl
  have y4 : w2.cell? ⟨gs, 4, none⟩ = some (.bool m.h.tc) := (blk_cell bS2 4).trans rfl
  have y5 : w2.cell? ⟨gs, 5, none⟩ = some (.bool m.h.rd) := (blk_cell bS2 5).trans rfl
  have y6 : w2.cell? ⟨gs, 6, none⟩ = some (.bool m.h.ra) := (blk_cell bS2 6).trans rfl
  have y7 : w2.cell? ⟨gs, 7, none⟩ = some (.int .i64 m.h.z) := (blk_cell bS2 7).trans rfl
  have y8 : w2.cell? ⟨gs, 8, none⟩ = some (.int .i64 m.h.rc) := (blk_cell bS2 8).trans rfl
  have y9 : w2.cell? ⟨gs, 9, none⟩ = some (.slice m.Aq m.qs.length m.cq) := (blk_cell bS2 9).trans rfl
  have y10 : w2.cell? ⟨gs, 10, none⟩ = some (.slice m.Aa m.an.length m.ca) := (blk_cell bS2 10).trans rfl
  have y11 : w2.cell? ⟨gs, 11, none⟩ = some (.slice m.An m.ns.length m.cn) := (blk_cell bS2 11).trans rfl
  have y12 : w2.cell? ⟨gs, 12, none⟩ = some (.slice m.Ar m.ar.length m.cr) := (blk_cell bS2 12).trans rfl
  have f0 := blk_frozen bS2 0
  have f1 := blk_frozen bS2 1
  have f2 := blk_frozen bS2 2
  have f3 := blk_frozen bS2 3
  have f4 := blk_frozen bS2 4
  have f5 := blk_frozen bS2 5
  have f6 := blk_frozen bS2 6
  have f7 := blk_frozen bS2 7
  have f8 := blk_frozen bS2 8
  have f9 := blk_frozen bS2 9
  have f10 := blk_frozen bS2 10
  have f11 := blk_frozen bS2 11
  have f12 := blk_frozen bS2 12
  go_upto_if 13 with (fail)
  have bS3 := blk_put (blk_put (blk_put (blk_put bS2 4 (.bool true) rfl) 10 (.slice none 0 0) rfl) 11 (.slice none 0 0) rfl) 12 (.slice none 0 0) rfl
  have bM3 := blk_set_ne (p := ⟨gs, 12, none⟩) (blk_set_ne (p := ⟨gs, 11, none⟩) (blk_set_ne (p := ⟨gs, 10, none⟩) (blk_set_ne (p := ⟨gs, 4, none⟩) bM2 hne (.bool true)) hne (.slice none 0 0)) hne (.slice none 0 0)) hne (.slice none 0 0)
  have B3 := (((B2.setCell (p := ⟨gs, 4, none⟩) hge (.bool true)).setCell (p := ⟨gs, 10, none⟩) hge (.slice none 0 0)).setCell (p := ⟨gs, 11, none⟩) hge (.slice none 0 0)).setCell (p := ⟨gs, 12, none⟩) hge (.slice none 0 0)
  generalize (((w2.setCell ⟨gs, 4, none⟩ (.bool true)).setCell ⟨gs, 10, none⟩ (.slice none 0 0)).setCell ⟨gs, 11, none⟩ (.slice none 0 0)).setCell ⟨gs, 12, none⟩ (.slice none 0 0) = w3 at *
  replace bS3 : w3.heap[gs]? = some (.cells (shortM m).cells 27 (0, 0)) := by
    show w3.heap[gs]? = some (.cells #[.int .i64 m.h.id, .bool m.h.qr, .int .i64 m.h.op, .bool m.h.aa, .bool true, .bool m.h.rd, .bool m.h.ra, .int .i64 m.h.z, .int .i64 m.h.rc, .slice m.Aq m.qs.length m.cq, .slice none 0 0, .slice none 0 0, .slice none 0 0] 27 (0, 0))
    simpa using bS3
  clear y0 y1 y2 y3 y4 y5 y6 y7 y8 y9 y10 y11 y12 f0 f1 f2 f3 f4 f5 f6 f7 f8 f9 f10 f11 f12 bM2 bS2 B2
  cases edns with
  | false =>
    go_wp2_with fail
    go_ret
    exact ⟨w.heap.size, gs, w3.heap.size, rfl, blk_alloc bM3 _, blk_alloc bS3 _, blk_new w3 _, B3.alloc B3.size _⟩
  | true =>
    go_wp2_with fail
    go_ret
    exact ⟨w.heap.size, gs, w3.heap.size, rfl, blk_alloc bM3 _, blk_alloc bS3 _, blk_new w3 _, B3.alloc B3.size _⟩
set_option maxHeartbeats 2000000 in
set_option maxRecDepth 100000 in
theorem fn1c (X : MsgV) (b : Nat) (w : World) (hb : w.heap[b]? = some (.cells X.cells 27 (0, 0))) (hX : X.Lies w) : Calls Try.prog 81 #[.pointer (some ⟨b, 0, none⟩)] w fun e w' => e = .returned (.tuple #[.string (putS X), .int .i64 (putE X)]) ∧ Below w.heap.size w w' := by
  have x0 : w.cell? ⟨b, 0, none⟩ = some (.int .i64 X.h.id) := (blk_cell hb 0).trans rfl
  have x1 : w.cell? ⟨b, 1, none⟩ = some (.bool X.h.qr) := (blk_cell hb 1).trans rfl
  have x2 : w.cell? ⟨b, 2, none⟩ = some (.int .i64 X.h.op) := (blk_cell hb 2).trans rfl
  have x3 : w.cell? ⟨b, 3, none⟩ = some (.bool X.h.aa) := (blk_cell hb 3).trans rfl
  have x4 : w.cell? ⟨b, 4, none⟩ = some (.bool X.h.tc) := (blk_cell hb 4).trans rfl
  have x5 : w.cell? ⟨b, 5, none⟩ = some (.bool X.h.rd) := (blk_cell hb 5).trans rfl
  have x6 : w.cell? ⟨b, 6, none⟩ = some (.bool X.h.ra) := (blk_cell hb 6).trans rfl
  have x7 : w.cell? ⟨b, 7, none⟩ = some (.int .i64 X.h.z) := (blk_cell hb 7).trans rfl
  have x8 : w.cell? ⟨b, 8, none⟩ = some (.int .i64 X.h.rc) := (blk_cell hb 8).trans rfl
  have x9 : w.cell? ⟨b, 9, none⟩ = some (.slice X.Aq X.qs.length X.cq) := (blk_cell hb 9).trans rfl
  have x10 : w.cell? ⟨b, 10, none⟩ = some (.slice X.Aa X.an.length X.ca) := (blk_cell hb 10).trans rfl
  have x11 : w.cell? ⟨b, 11, none⟩ = some (.slice X.An X.ns.length X.cn) := (blk_cell hb 11).trans rfl
  have x12 : w.cell? ⟨b, 12, none⟩ = some (.slice X.Ar X.ar.length X.cr) := (blk_cell hb 12).trans rfl
  clear hb
  go_enter Try.func81, Try.ntmps81
  have kp := putc X w hX
  go_wp2_with fail
  refine kp.mono ?_
  rintro e w5 ⟨rfl, hb⟩
  clear kp
  go_wp2_with fail
  go_ret2
  exact ⟨rfl, hb⟩
set_option maxHeartbeats 2000000 in
set_option maxRecDepth 100000 in
theorem fn2c (X : MsgV) (b : Nat) (w : World) (hb : w.heap[b]? = some (.cells X.cells 27 (0, 0))) (hX : X.Lies w) : Calls Try.prog 82 #[.pointer (some ⟨b, 0, none⟩)] w fun e w' => e = .returned (.tuple #[.string (putS X), .int .i64 (putE X)]) ∧ Below w.heap.size w w' := by
  have x0 : w.cell? ⟨b, 0, none⟩ = some (.int .i64 X.h.id) := (blk_cell hb 0).trans rfl
  have x1 : w.cell? ⟨b, 1, none⟩ = some (.bool X.h.qr) := (blk_cell hb 1).trans rfl
  have x2 : w.cell? ⟨b, 2, none⟩ = some (.int .i64 X.h.op) := (blk_cell hb 2).trans rfl
  have x3 : w.cell? ⟨b, 3, none⟩ = some (.bool X.h.aa) := (blk_cell hb 3).trans rfl
  have x4 : w.cell? ⟨b, 4, none⟩ = some (.bool X.h.tc) := (blk_cell hb 4).trans rfl
  have x5 : w.cell? ⟨b, 5, none⟩ = some (.bool X.h.rd) := (blk_cell hb 5).trans rfl
  have x6 : w.cell? ⟨b, 6, none⟩ = some (.bool X.h.ra) := (blk_cell hb 6).trans rfl
  have x7 : w.cell? ⟨b, 7, none⟩ = some (.int .i64 X.h.z) := (blk_cell hb 7).trans rfl
  have x8 : w.cell? ⟨b, 8, none⟩ = some (.int .i64 X.h.rc) := (blk_cell hb 8).trans rfl
  have x9 : w.cell? ⟨b, 9, none⟩ = some (.slice X.Aq X.qs.length X.cq) := (blk_cell hb 9).trans rfl
  have x10 : w.cell? ⟨b, 10, none⟩ = some (.slice X.Aa X.an.length X.ca) := (blk_cell hb 10).trans rfl
  have x11 : w.cell? ⟨b, 11, none⟩ = some (.slice X.An X.ns.length X.cn) := (blk_cell hb 11).trans rfl
  have x12 : w.cell? ⟨b, 12, none⟩ = some (.slice X.Ar X.ar.length X.cr) := (blk_cell hb 12).trans rfl
  clear hb
  go_enter Try.func82, Try.ntmps82
  have kp := putc X w hX
  go_wp2_with fail
  refine kp.mono ?_
  rintro e w5 ⟨rfl, hb⟩
  clear kp
  go_wp2_with fail
  go_ret2
  exact ⟨rfl, hb⟩
set_option maxHeartbeats 2000000 in
set_option maxRecDepth 100000 in
theorem fn3c (X : MsgV) (b : Nat) (w : World) (hb : w.heap[b]? = some (.cells X.cells 27 (0, 0))) (hX : X.Lies w) (hl : X.ar.length ≤ 63) : Calls Try.prog 83 #[.pointer (some ⟨b, 0, none⟩)] w fun e w' => e = .returned (.tuple #[.string (padS X 468), .int .i64 (padE X 468)]) ∧ Below w.heap.size w w' := by
  have x0 : w.cell? ⟨b, 0, none⟩ = some (.int .i64 X.h.id) := (blk_cell hb 0).trans rfl
  have x1 : w.cell? ⟨b, 1, none⟩ = some (.bool X.h.qr) := (blk_cell hb 1).trans rfl
  have x2 : w.cell? ⟨b, 2, none⟩ = some (.int .i64 X.h.op) := (blk_cell hb 2).trans rfl
  have x3 : w.cell? ⟨b, 3, none⟩ = some (.bool X.h.aa) := (blk_cell hb 3).trans rfl
  have x4 : w.cell? ⟨b, 4, none⟩ = some (.bool X.h.tc) := (blk_cell hb 4).trans rfl
  have x5 : w.cell? ⟨b, 5, none⟩ = some (.bool X.h.rd) := (blk_cell hb 5).trans rfl
  have x6 : w.cell? ⟨b, 6, none⟩ = some (.bool X.h.ra) := (blk_cell hb 6).trans rfl
  have x7 : w.cell? ⟨b, 7, none⟩ = some (.int .i64 X.h.z) := (blk_cell hb 7).trans rfl
  have x8 : w.cell? ⟨b, 8, none⟩ = some (.int .i64 X.h.rc) := (blk_cell hb 8).trans rfl
  have x9 : w.cell? ⟨b, 9, none⟩ = some (.slice X.Aq X.qs.length X.cq) := (blk_cell hb 9).trans rfl
  have x10 : w.cell? ⟨b, 10, none⟩ = some (.slice X.Aa X.an.length X.ca) := (blk_cell hb 10).trans rfl
  have x11 : w.cell? ⟨b, 11, none⟩ = some (.slice X.An X.ns.length X.cn) := (blk_cell hb 11).trans rfl
  have x12 : w.cell? ⟨b, 12, none⟩ = some (.slice X.Ar X.ar.length X.cr) := (blk_cell hb 12).trans rfl
  clear hb
  go_enter Try.func83, Try.ntmps83
  have kp := paddedc X 468 (by decide) (by decide) w hX hl
  go_wp2_with fail
  refine kp.mono ?_
  rintro e w5 ⟨rfl, hb⟩
  clear kp
  go_wp2_with fail
  go_ret2
  exact ⟨rfl, hb⟩
set_option maxHeartbeats 2000000 in
set_option maxRecDepth 100000 in
theorem fn4c (X : MsgV) (b : Nat) (w : World) (hb : w.heap[b]? = some (.cells X.cells 27 (0, 0))) (hX : X.Lies w) (hl : X.ar.length ≤ 63) : Calls Try.prog 84 #[.pointer (some ⟨b, 0, none⟩)] w fun e w' => e = .returned (.tuple #[.string (padS X 468), .int .i64 (padE X 468)]) ∧ Below w.heap.size w w' := by
  have x0 : w.cell? ⟨b, 0, none⟩ = some (.int .i64 X.h.id) := (blk_cell hb 0).trans rfl
  have x1 : w.cell? ⟨b, 1, none⟩ = some (.bool X.h.qr) := (blk_cell hb 1).trans rfl
  have x2 : w.cell? ⟨b, 2, none⟩ = some (.int .i64 X.h.op) := (blk_cell hb 2).trans rfl
  have x3 : w.cell? ⟨b, 3, none⟩ = some (.bool X.h.aa) := (blk_cell hb 3).trans rfl
  have x4 : w.cell? ⟨b, 4, none⟩ = some (.bool X.h.tc) := (blk_cell hb 4).trans rfl
  have x5 : w.cell? ⟨b, 5, none⟩ = some (.bool X.h.rd) := (blk_cell hb 5).trans rfl
  have x6 : w.cell? ⟨b, 6, none⟩ = some (.bool X.h.ra) := (blk_cell hb 6).trans rfl
  have x7 : w.cell? ⟨b, 7, none⟩ = some (.int .i64 X.h.z) := (blk_cell hb 7).trans rfl
  have x8 : w.cell? ⟨b, 8, none⟩ = some (.int .i64 X.h.rc) := (blk_cell hb 8).trans rfl
  have x9 : w.cell? ⟨b, 9, none⟩ = some (.slice X.Aq X.qs.length X.cq) := (blk_cell hb 9).trans rfl
  have x10 : w.cell? ⟨b, 10, none⟩ = some (.slice X.Aa X.an.length X.ca) := (blk_cell hb 10).trans rfl
  have x11 : w.cell? ⟨b, 11, none⟩ = some (.slice X.An X.ns.length X.cn) := (blk_cell hb 11).trans rfl
  have x12 : w.cell? ⟨b, 12, none⟩ = some (.slice X.Ar X.ar.length X.cr) := (blk_cell hb 12).trans rfl
  clear hb
  go_enter Try.func84, Try.ntmps84
  have kp := paddedc X 468 (by decide) (by decide) w hX hl
  go_wp2_with fail
  refine kp.mono ?_
  rintro e w5 ⟨rfl, hb⟩
  clear kp
  go_wp2_with fail
  go_ret2
  exact ⟨rfl, hb⟩
set_option maxHeartbeats 2000000 in
set_option maxRecDepth 100000 in
theorem fn5c (X : MsgV) (b : Nat) (w : World) (hb : w.heap[b]? = some (.cells X.cells 27 (0, 0))) (hX : X.Lies w) (hl : X.ar.length ≤ 63) : Calls Try.prog 85 #[.pointer (some ⟨b, 0, none⟩)] w fun e w' => e = .returned (.tuple #[.string (putS (padR X ⟨#[]⟩)), .int .i64 (putE (padR X ⟨#[]⟩))]) ∧ Below w.heap.size w w' := by
  have x0 : w.cell? ⟨b, 0, none⟩ = some (.int .i64 X.h.id) := (blk_cell hb 0).trans rfl
  have x1 : w.cell? ⟨b, 1, none⟩ = some (.bool X.h.qr) := (blk_cell hb 1).trans rfl
  have x2 : w.cell? ⟨b, 2, none⟩ = some (.int .i64 X.h.op) := (blk_cell hb 2).trans rfl
  have x3 : w.cell? ⟨b, 3, none⟩ = some (.bool X.h.aa) := (blk_cell hb 3).trans rfl
  have x4 : w.cell? ⟨b, 4, none⟩ = some (.bool X.h.tc) := (blk_cell hb 4).trans rfl
  have x5 : w.cell? ⟨b, 5, none⟩ = some (.bool X.h.rd) := (blk_cell hb 5).trans rfl
  have x6 : w.cell? ⟨b, 6, none⟩ = some (.bool X.h.ra) := (blk_cell hb 6).trans rfl
  have x7 : w.cell? ⟨b, 7, none⟩ = some (.int .i64 X.h.z) := (blk_cell hb 7).trans rfl
  have x8 : w.cell? ⟨b, 8, none⟩ = some (.int .i64 X.h.rc) := (blk_cell hb 8).trans rfl
  have x9 : w.cell? ⟨b, 9, none⟩ = some (.slice X.Aq X.qs.length X.cq) := (blk_cell hb 9).trans rfl
  have x10 : w.cell? ⟨b, 10, none⟩ = some (.slice X.Aa X.an.length X.ca) := (blk_cell hb 10).trans rfl
  have x11 : w.cell? ⟨b, 11, none⟩ = some (.slice X.An X.ns.length X.cn) := (blk_cell hb 11).trans rfl
  have x12 : w.cell? ⟨b, 12, none⟩ = some (.slice X.Ar X.ar.length X.cr) := (blk_cell hb 12).trans rfl
  clear hb
  go_enter Try.func85, Try.ntmps85
  go_wp2_with fail
  refine (withc X (-1) ⟨#[]⟩ (.inl ⟨rfl, rfl⟩) w hX hl).mono ?_
  rintro e w4 ⟨A1, c1, rfl, hm2, hb4⟩
  have kp := putc _ w4 hm2
  go_wp2_with fail
  refine kp.mono ?_
  rintro e w5 ⟨rfl, hb⟩
  have B := hb4.trans (hb.mono hb4.size)
  clear kp hb hb4
  go_wp2_with fail
  go_ret2
  exact ⟨rfl, B⟩
/-- The ways in which an answer may go, the best first. -/
def formL (m : MsgV) (edns : Bool) : List (ByteArray × Int) :=
  if edns = true then [(padS m 468, padE m 468), (padS (shortM m) 468, padE (shortM m) 468), (putS (padR (shortM m) ⟨#[]⟩), putE (padR (shortM m) ⟨#[]⟩))] else [(putS m, putE m), (putS (shortM m), putE (shortM m))]
def pick (most : Int) : List (ByteArray × Int) → ByteArray × Int
  | [] => (⟨#[]⟩, 1001)
  | p :: l => if p.2 = 0 ∧ (p.1.size : Int) ≤ most then (p.1, 0) else pick most l
def ansP (m : MsgV) (edns : Bool) (most : Int) : ByteArray × Int :=
  if putE m = 700 then (⟨#[]⟩, 1000) else if putE m = 701 then (⟨#[]⟩, 1001) else if edns = true ∧ 64 ≤ m.ar.length then (⟨#[]⟩, 1000) else if most < 12 then (⟨#[]⟩, 1001) else pick most (formL m edns)
theorem pick_skip {most : Int} {p : ByteArray × Int} {l : List (ByteArray × Int)} (h : ¬ (p.2 = 0 ∧ (p.1.size : Int) ≤ most)) : pick most (p :: l) = pick most l := if_neg h
theorem pick_take {most : Int} {s : ByteArray} {e : Int} {l : List (ByteArray × Int)} (h0 : e = 0) (h : (s.size : Int) ≤ most) : pick most ((s, e) :: l) = (s, 0) := if_pos ⟨h0, h⟩
set_option maxHeartbeats 4000000 in
set_option maxRecDepth 100000 in
theorem answerc (m : MsgV) (edns : Bool) (most : Int) (w : World) (hm : m.Lies w) : Calls Try.prog 29 #[.agg m.cells, .bool edns, .int .i64 most] w fun e w' => e = .returned (.tuple #[.string (ansP m edns most).1, .int .i64 (ansP m edns most).2]) ∧ Below w.heap.size w w' := by
  have Bx : Below w.heap.size w (w.alloc (.cells m.cells 27)) := (Below.refl _ _).alloc (Nat.le_refl _) _
  have bM := blk_new w (.cells m.cells 27)
  have HM := Lib.hid hm
  clear hm
  go_enter Try.func29, Try.ntmps29
  go_upto_region 1 with (fail)
  generalize w.alloc (.cells m.cells 27) = w1 at *
  have x0 : w1.cell? ⟨w.heap.size, 0, none⟩ = some (.int .i64 m.h.id) := (blk_cell bM 0).trans rfl
  have x1 : w1.cell? ⟨w.heap.size, 1, none⟩ = some (.bool m.h.qr) := (blk_cell bM 1).trans rfl
  have x2 : w1.cell? ⟨w.heap.size, 2, none⟩ = some (.int .i64 m.h.op) := (blk_cell bM 2).trans rfl
  have x3 : w1.cell? ⟨w.heap.size, 3, none⟩ = some (.bool m.h.aa) := (blk_cell bM 3).trans rfl
  have x4 : w1.cell? ⟨w.heap.size, 4, none⟩ = some (.bool m.h.tc) := (blk_cell bM 4).trans rfl
  have x5 : w1.cell? ⟨w.heap.size, 5, none⟩ = some (.bool m.h.rd) := (blk_cell bM 5).trans rfl
  have x6 : w1.cell? ⟨w.heap.size, 6, none⟩ = some (.bool m.h.ra) := (blk_cell bM 6).trans rfl
  have x7 : w1.cell? ⟨w.heap.size, 7, none⟩ = some (.int .i64 m.h.z) := (blk_cell bM 7).trans rfl
  have x8 : w1.cell? ⟨w.heap.size, 8, none⟩ = some (.int .i64 m.h.rc) := (blk_cell bM 8).trans rfl
  have x9 : w1.cell? ⟨w.heap.size, 9, none⟩ = some (.slice m.Aq m.qs.length m.cq) := (blk_cell bM 9).trans rfl
  have x10 : w1.cell? ⟨w.heap.size, 10, none⟩ = some (.slice m.Aa m.an.length m.ca) := (blk_cell bM 10).trans rfl
  have x11 : w1.cell? ⟨w.heap.size, 11, none⟩ = some (.slice m.An m.ns.length m.cn) := (blk_cell bM 11).trans rfl
  have x12 : w1.cell? ⟨w.heap.size, 12, none⟩ = some (.slice m.Ar m.ar.length m.cr) := (blk_cell bM 12).trans rfl
  have kp := putc m w1 (HM.out.below Bx)
  go_wp2_with fail
  refine kp.mono ?_
  rintro e w2 ⟨rfl, hb⟩
  replace Bx := Bx.trans (hb.mono Bx.size)
  replace bM := blk_below bM hb
  clear x0 x1 x2 x3 x4 x5 x6 x7 x8 x9 x10 x11 x12
  clear hb kp
  have HA := Lib.hid (show ansP m edns most = if putE m = 700 then (⟨#[]⟩, 1000) else if putE m = 701 then (⟨#[]⟩, 1001) else if edns = true ∧ 64 ≤ m.ar.length then (⟨#[]⟩, 1000) else if most < 12 then (⟨#[]⟩, 1001) else pick most (formL m edns) from rfl)
  by_cases h0 : putE m = 700
  · have t0 : (putE m == 700) = true := by simpa using h0
    have HR := Lib.hid (HA.out.trans (if_pos h0))
    clear h0 HA
    generalize putE m = te at *
    go_wp2_with fail
    go_ret2
    refine ⟨?_, Bx⟩
    rw [HR.out]
    rfl
  have t0 : (putE m == 700) = false := by simpa using h0
  have HB := Lib.hid (HA.out.trans (if_neg h0))
  clear HA
  by_cases h1 : putE m = 701
  · have t1 : (putE m == 701) = true := by simpa using h1
    have HR := Lib.hid (HB.out.trans (if_pos h1))
    clear h0 h1 HB
    generalize putE m = te at *
    go_wp2_with fail
    go_ret2
    refine ⟨?_, Bx⟩
    rw [HR.out]
    rfl
  have t1 : (putE m == 701) = false := by simpa using h1
  have HC := Lib.hid (HB.out.trans (if_neg h1))
  clear h0 h1 HB
  have te : ∃ te, te = putE m := ⟨_, rfl⟩
  obtain ⟨te, hte⟩ := te
  rw [← hte] at t0 t1 ⊢
  clear hte
  have x12 : w2.cell? ⟨w.heap.size, 12, none⟩ = some (.slice m.Ar m.ar.length m.cr) := (blk_cell bM 12).trans rfl
  cases edns with
  | false =>
    have HD := Lib.hid (HC.out.trans (if_neg (fun k => by cases k.1)))
    clear HC
    by_cases h3 : most < 12
    · have q3 : decide (most < 12) = true := decide_eq_true h3
      have HR := Lib.hid (HD.out.trans (if_pos h3))
      clear h3 HD
      go_wp2_with fail
      go_ret2
      refine ⟨?_, Bx⟩
      rw [HR.out]
      rfl
    have q3 : decide (most < 12) = false := decide_eq_false h3
    have HF := Lib.hid (HD.out.trans (if_neg h3))
    clear h3 HD
    have y0 : w2.cell? ⟨w.heap.size, 0, none⟩ = some (.int .i64 m.h.id) := (blk_cell bM 0).trans rfl
    have y1 : w2.cell? ⟨w.heap.size, 1, none⟩ = some (.bool m.h.qr) := (blk_cell bM 1).trans rfl
    have y2 : w2.cell? ⟨w.heap.size, 2, none⟩ = some (.int .i64 m.h.op) := (blk_cell bM 2).trans rfl
    have y3 : w2.cell? ⟨w.heap.size, 3, none⟩ = some (.bool m.h.aa) := (blk_cell bM 3).trans rfl
    have y4 : w2.cell? ⟨w.heap.size, 4, none⟩ = some (.bool m.h.tc) := (blk_cell bM 4).trans rfl
    have y5 : w2.cell? ⟨w.heap.size, 5, none⟩ = some (.bool m.h.rd) := (blk_cell bM 5).trans rfl
    have y6 : w2.cell? ⟨w.heap.size, 6, none⟩ = some (.bool m.h.ra) := (blk_cell bM 6).trans rfl
    have y7 : w2.cell? ⟨w.heap.size, 7, none⟩ = some (.int .i64 m.h.z) := (blk_cell bM 7).trans rfl
    have y8 : w2.cell? ⟨w.heap.size, 8, none⟩ = some (.int .i64 m.h.rc) := (blk_cell bM 8).trans rfl
    have y9 : w2.cell? ⟨w.heap.size, 9, none⟩ = some (.slice m.Aq m.qs.length m.cq) := (blk_cell bM 9).trans rfl
    have y10 : w2.cell? ⟨w.heap.size, 10, none⟩ = some (.slice m.Aa m.an.length m.ca) := (blk_cell bM 10).trans rfl
    have y11 : w2.cell? ⟨w.heap.size, 11, none⟩ = some (.slice m.An m.ns.length m.cn) := (blk_cell bM 11).trans rfl
    have y12 : w2.cell? ⟨w.heap.size, 12, none⟩ = some (.slice m.Ar m.ar.length m.cr) := (blk_cell bM 12).trans rfl
    go_wp2_with fail
    refine (formsc m false w2).mono ?_
    rintro e w3 ⟨gm, gs, g, rfl, bm, bs, bg, hb⟩
    have B3 := Bx.trans (hb.mono Bx.size)
    clear y0 y1 y2 y3 y4 y5 y6 y7 y8 y9 y10 y11 y12 x12 bM hb Bx
    have c0 : w3.cell? ⟨g, 0, none⟩ = some (fn 81 gm) := (blk_cell bg 0).trans rfl
    have c1 : w3.cell? ⟨g, 1, none⟩ = some (fn 82 gs) := (blk_cell bg 1).trans rfl
    have hgl := blk_lt bg
    simp only [nF, if_true, if_false, Bool.false_eq_true] at *
    go_wp2_with fail
    go_loopg [11, 12, 13, 40] 3 (fun k v11 v12 v13 v40 wr => ∃ i : Nat, v40 = .int .i64 (i : Int) ∧ i + k = 3 ∧ i ≤ 2 ∧ Below w3.heap.size w3 wr ∧ pick most (([(putS m, putE m), (putS (shortM m), putE (shortM m))] : List (ByteArray × Int)).drop i) = pick most (formL m false))
    case atStart => exact ⟨0, rfl, rfl, by omega, Below.refl _ _, rfl⟩
    case round =>
      obtain ⟨i, rfl, hk, hi, hBW, hp⟩ := hrel
      have HBW := Lib.hid hBW
      have hi' : i = 0 ∨ i = 1 ∨ i = 2 := by omega
      rcases hi' with rfl | rfl | rfl
      · have d : wr.cell? ⟨g, 0, none⟩ = some (fn 81 gm) := (hBW.cell hgl).trans c0
        have kq := fn1c m gm wr (blk_below bm hBW) (HM.out.below (B3.trans (hBW.mono B3.size)))
        obtain ⟨s1, hs1⟩ : ∃ s, s = putS m := ⟨_, rfl⟩
        obtain ⟨e1, he1⟩ : ∃ e, e = putE m := ⟨_, rfl⟩
        rw [← hs1, ← he1] at kq
        have hp' : pick most ((s1, e1) :: [(putS (shortM m), putE (shortM m))]) = pick most (formL m false) := by rw [hs1, he1]; exact hp
        have HP := Lib.hid hp'
        have HK := Lib.hid hk
        clear hp hp' hs1 he1 hBW c0 c1 hi hk bm bs bg
        go_wp2_with fail
        refine kq.mono ?_
        rintro e w5 ⟨rfl, hb⟩
        have B5 := HBW.out.trans (hb.mono HBW.out.size)
        clear hb kq
        by_cases h0 : e1 = 0
        · have t3 : (e1 == 0) = true := by simpa using h0
          by_cases h1 : (s1.size : Int) ≤ most
          · have t4 : decide ((s1.size : Int) ≤ most) = true := decide_eq_true h1
            have HT := Lib.hid (HF.out.trans (HP.out.symm.trans (pick_take h0 h1)))
            clear h0 h1
            go_wp2_with fail
            go_ret2
            refine ⟨?_, B3.trans (B5.mono B3.size)⟩
            rw [HT.out]
            rfl
          · have t4 : decide ((s1.size : Int) ≤ most) = false := decide_eq_false h1
            have HN := Lib.hid ((pick_skip (show ¬ (e1 = 0 ∧ (s1.size : Int) ≤ most) from fun k => h1 k.2)).symm.trans HP.out)
            clear h0 h1
            go_wp2_with fail
            go_roundg 2
            case measure => have := HK.out; omega
            case rel => exact ⟨1, rfl, rfl, by omega, B5, HN.out⟩
        · have t3 : (e1 == 0) = false := by simpa using h0
          have HN := Lib.hid ((pick_skip (show ¬ (e1 = 0 ∧ (s1.size : Int) ≤ most) from fun k => h0 k.1)).symm.trans HP.out)
          clear h0
          go_wp2_with fail
          go_roundg 2
          case measure => have := HK.out; omega
          case rel => exact ⟨1, rfl, rfl, by omega, B5, HN.out⟩
      · have d : wr.cell? ⟨g, 1, none⟩ = some (fn 82 gs) := (hBW.cell hgl).trans c1
        have kq := fn2c (shortM m) gs wr (blk_below bs hBW) (short_lies (HM.out.below (B3.trans (hBW.mono B3.size))))
        obtain ⟨s1, hs1⟩ : ∃ s, s = putS (shortM m) := ⟨_, rfl⟩
        obtain ⟨e1, he1⟩ : ∃ e, e = putE (shortM m) := ⟨_, rfl⟩
        rw [← hs1, ← he1] at kq
        have hp' : pick most ((s1, e1) :: []) = pick most (formL m false) := by rw [hs1, he1]; exact hp
        have HP := Lib.hid hp'
        have HK := Lib.hid hk
        clear hp hp' hs1 he1 hBW c0 c1 hi hk bm bs bg
        go_wp2_with fail
        refine kq.mono ?_
        rintro e w5 ⟨rfl, hb⟩
        have B5 := HBW.out.trans (hb.mono HBW.out.size)
        clear hb kq
        by_cases h0 : e1 = 0
        · have t3 : (e1 == 0) = true := by simpa using h0
          by_cases h1 : (s1.size : Int) ≤ most
          · have t4 : decide ((s1.size : Int) ≤ most) = true := decide_eq_true h1
            have HT := Lib.hid (HF.out.trans (HP.out.symm.trans (pick_take h0 h1)))
            clear h0 h1
            go_wp2_with fail
            go_ret2
            refine ⟨?_, B3.trans (B5.mono B3.size)⟩
            rw [HT.out]
            rfl
          · have t4 : decide ((s1.size : Int) ≤ most) = false := decide_eq_false h1
            have HN := Lib.hid ((pick_skip (show ¬ (e1 = 0 ∧ (s1.size : Int) ≤ most) from fun k => h1 k.2)).symm.trans HP.out)
            clear h0 h1
            go_wp2_with fail
            go_roundg 1
            case measure => have := HK.out; omega
            case rel => exact ⟨2, rfl, rfl, by omega, B5, HN.out⟩
        · have t3 : (e1 == 0) = false := by simpa using h0
          have HN := Lib.hid ((pick_skip (show ¬ (e1 = 0 ∧ (s1.size : Int) ≤ most) from fun k => h0 k.1)).symm.trans HP.out)
          clear h0
          go_wp2_with fail
          go_roundg 1
          case measure => have := HK.out; omega
          case rel => exact ⟨2, rfl, rfl, by omega, B5, HN.out⟩
      · have HT := Lib.hid (HF.out.trans hp.symm)
        clear hp
        go_wp2_with fail
        go_ret2
        refine ⟨?_, B3.trans (HBW.out.mono B3.size)⟩
        rw [HT.out]
        rfl
  | true =>
    by_cases h2 : 64 ≤ m.ar.length
    · have q2 : decide ((64 : Int) ≤ (m.ar.length : Int)) = true := by simp; omega
      have HR := Lib.hid (HC.out.trans (if_pos ⟨rfl, h2⟩))
      clear h2 HC
      go_wp2_with fail
      go_ret2
      refine ⟨?_, Bx⟩
      rw [HR.out]
      rfl
    have q2 : decide ((64 : Int) ≤ (m.ar.length : Int)) = false := by simp; omega
    have hl : m.ar.length ≤ 63 := by omega
    have HD := Lib.hid (HC.out.trans (if_neg (fun k => h2 k.2)))
    clear h2 HC
    by_cases h3 : most < 12
    · have q3 : decide (most < 12) = true := decide_eq_true h3
      have HR := Lib.hid (HD.out.trans (if_pos h3))
      clear h3 HD
      go_wp2_with fail
      go_ret2
      refine ⟨?_, Bx⟩
      rw [HR.out]
      rfl
    have q3 : decide (most < 12) = false := decide_eq_false h3
    have HF := Lib.hid (HD.out.trans (if_neg h3))
    clear h3 HD
    have y0 : w2.cell? ⟨w.heap.size, 0, none⟩ = some (.int .i64 m.h.id) := (blk_cell bM 0).trans rfl
    have y1 : w2.cell? ⟨w.heap.size, 1, none⟩ = some (.bool m.h.qr) := (blk_cell bM 1).trans rfl
    have y2 : w2.cell? ⟨w.heap.size, 2, none⟩ = some (.int .i64 m.h.op) := (blk_cell bM 2).trans rfl
    have y3 : w2.cell? ⟨w.heap.size, 3, none⟩ = some (.bool m.h.aa) := (blk_cell bM 3).trans rfl
    have y4 : w2.cell? ⟨w.heap.size, 4, none⟩ = some (.bool m.h.tc) := (blk_cell bM 4).trans rfl
    have y5 : w2.cell? ⟨w.heap.size, 5, none⟩ = some (.bool m.h.rd) := (blk_cell bM 5).trans rfl
    have y6 : w2.cell? ⟨w.heap.size, 6, none⟩ = some (.bool m.h.ra) := (blk_cell bM 6).trans rfl
    have y7 : w2.cell? ⟨w.heap.size, 7, none⟩ = some (.int .i64 m.h.z) := (blk_cell bM 7).trans rfl
    have y8 : w2.cell? ⟨w.heap.size, 8, none⟩ = some (.int .i64 m.h.rc) := (blk_cell bM 8).trans rfl
    have y9 : w2.cell? ⟨w.heap.size, 9, none⟩ = some (.slice m.Aq m.qs.length m.cq) := (blk_cell bM 9).trans rfl
    have y10 : w2.cell? ⟨w.heap.size, 10, none⟩ = some (.slice m.Aa m.an.length m.ca) := (blk_cell bM 10).trans rfl
    have y11 : w2.cell? ⟨w.heap.size, 11, none⟩ = some (.slice m.An m.ns.length m.cn) := (blk_cell bM 11).trans rfl
    have y12 : w2.cell? ⟨w.heap.size, 12, none⟩ = some (.slice m.Ar m.ar.length m.cr) := (blk_cell bM 12).trans rfl
    go_wp2_with fail
    refine (formsc m true w2).mono ?_
    rintro e w3 ⟨gm, gs, g, rfl, bm, bs, bg, hb⟩
    have B3 := Bx.trans (hb.mono Bx.size)
    clear y0 y1 y2 y3 y4 y5 y6 y7 y8 y9 y10 y11 y12 x12 bM hb Bx
    have c0 : w3.cell? ⟨g, 0, none⟩ = some (fn 83 gm) := (blk_cell bg 0).trans rfl
    have c1 : w3.cell? ⟨g, 1, none⟩ = some (fn 84 gs) := (blk_cell bg 1).trans rfl
    have c2 : w3.cell? ⟨g, 2, none⟩ = some (fn 85 gs) := (blk_cell bg 2).trans rfl
    have hgl := blk_lt bg
    simp only [nF, if_true, if_false, Bool.false_eq_true] at *
    go_wp2_with fail
    go_loopg [11, 12, 13, 40] 4 (fun k v11 v12 v13 v40 wr => ∃ i : Nat, v40 = .int .i64 (i : Int) ∧ i + k = 4 ∧ i ≤ 3 ∧ Below w3.heap.size w3 wr ∧ pick most (([(padS m 468, padE m 468), (padS (shortM m) 468, padE (shortM m) 468), (putS (padR (shortM m) ⟨#[]⟩), putE (padR (shortM m) ⟨#[]⟩))] : List (ByteArray × Int)).drop i) = pick most (formL m true))
    case atStart => exact ⟨0, rfl, rfl, by omega, Below.refl _ _, rfl⟩
    case round =>
      obtain ⟨i, rfl, hk, hi, hBW, hp⟩ := hrel
      have HBW := Lib.hid hBW
      have hi' : i = 0 ∨ i = 1 ∨ i = 2 ∨ i = 3 := by omega
      rcases hi' with rfl | rfl | rfl | rfl
      · have d : wr.cell? ⟨g, 0, none⟩ = some (fn 83 gm) := (hBW.cell hgl).trans c0
        have kq := fn3c m gm wr (blk_below bm hBW) (HM.out.below (B3.trans (hBW.mono B3.size))) hl
        obtain ⟨s1, hs1⟩ : ∃ s, s = padS m 468 := ⟨_, rfl⟩
        obtain ⟨e1, he1⟩ : ∃ e, e = padE m 468 := ⟨_, rfl⟩
        rw [← hs1, ← he1] at kq
        have hp' : pick most ((s1, e1) :: [(padS (shortM m) 468, padE (shortM m) 468), (putS (padR (shortM m) ⟨#[]⟩), putE (padR (shortM m) ⟨#[]⟩))]) = pick most (formL m true) := by rw [hs1, he1]; exact hp
        have HP := Lib.hid hp'
        have HK := Lib.hid hk
        clear hp hp' hs1 he1 hBW c0 c1 c2 hi hk bm bs bg
        go_wp2_with fail
        refine kq.mono ?_
        rintro e w5 ⟨rfl, hb⟩
        have B5 := HBW.out.trans (hb.mono HBW.out.size)
        clear hb kq
        by_cases h0 : e1 = 0
        · have t3 : (e1 == 0) = true := by simpa using h0
          by_cases h1 : (s1.size : Int) ≤ most
          · have t4 : decide ((s1.size : Int) ≤ most) = true := decide_eq_true h1
            have HT := Lib.hid (HF.out.trans (HP.out.symm.trans (pick_take h0 h1)))
            clear h0 h1
            go_wp2_with fail
            go_ret2
            refine ⟨?_, B3.trans (B5.mono B3.size)⟩
            rw [HT.out]
            rfl
          · have t4 : decide ((s1.size : Int) ≤ most) = false := decide_eq_false h1
            have HN := Lib.hid ((pick_skip (show ¬ (e1 = 0 ∧ (s1.size : Int) ≤ most) from fun k => h1 k.2)).symm.trans HP.out)
            clear h0 h1
            go_wp2_with fail
            go_roundg 3
            case measure => have := HK.out; omega
            case rel => exact ⟨1, rfl, rfl, by omega, B5, HN.out⟩
        · have t3 : (e1 == 0) = false := by simpa using h0
          have HN := Lib.hid ((pick_skip (show ¬ (e1 = 0 ∧ (s1.size : Int) ≤ most) from fun k => h0 k.1)).symm.trans HP.out)
          clear h0
          go_wp2_with fail
          go_roundg 3
          case measure => have := HK.out; omega
          case rel => exact ⟨1, rfl, rfl, by omega, B5, HN.out⟩
      · have d : wr.cell? ⟨g, 1, none⟩ = some (fn 84 gs) := (hBW.cell hgl).trans c1
        have kq := fn4c (shortM m) gs wr (blk_below bs hBW) (short_lies (HM.out.below (B3.trans (hBW.mono B3.size)))) (Nat.zero_le _)
        obtain ⟨s1, hs1⟩ : ∃ s, s = padS (shortM m) 468 := ⟨_, rfl⟩
        obtain ⟨e1, he1⟩ : ∃ e, e = padE (shortM m) 468 := ⟨_, rfl⟩
        rw [← hs1, ← he1] at kq
        have hp' : pick most ((s1, e1) :: [(putS (padR (shortM m) ⟨#[]⟩), putE (padR (shortM m) ⟨#[]⟩))]) = pick most (formL m true) := by rw [hs1, he1]; exact hp
        have HP := Lib.hid hp'
        have HK := Lib.hid hk
        clear hp hp' hs1 he1 hBW c0 c1 c2 hi hk bm bs bg
        go_wp2_with fail
        refine kq.mono ?_
        rintro e w5 ⟨rfl, hb⟩
        have B5 := HBW.out.trans (hb.mono HBW.out.size)
        clear hb kq
        by_cases h0 : e1 = 0
        · have t3 : (e1 == 0) = true := by simpa using h0
          by_cases h1 : (s1.size : Int) ≤ most
          · have t4 : decide ((s1.size : Int) ≤ most) = true := decide_eq_true h1
            have HT := Lib.hid (HF.out.trans (HP.out.symm.trans (pick_take h0 h1)))
            clear h0 h1
            go_wp2_with fail
            go_ret2
            refine ⟨?_, B3.trans (B5.mono B3.size)⟩
            rw [HT.out]
            rfl
          · have t4 : decide ((s1.size : Int) ≤ most) = false := decide_eq_false h1
            have HN := Lib.hid ((pick_skip (show ¬ (e1 = 0 ∧ (s1.size : Int) ≤ most) from fun k => h1 k.2)).symm.trans HP.out)
            clear h0 h1
            go_wp2_with fail
            go_roundg 2
            case measure => have := HK.out; omega
            case rel => exact ⟨2, rfl, rfl, by omega, B5, HN.out⟩
        · have t3 : (e1 == 0) = false := by simpa using h0
          have HN := Lib.hid ((pick_skip (show ¬ (e1 = 0 ∧ (s1.size : Int) ≤ most) from fun k => h0 k.1)).symm.trans HP.out)
          clear h0
          go_wp2_with fail
          go_roundg 2
          case measure => have := HK.out; omega
          case rel => exact ⟨2, rfl, rfl, by omega, B5, HN.out⟩
      · have d : wr.cell? ⟨g, 2, none⟩ = some (fn 85 gs) := (hBW.cell hgl).trans c2
        have kq := fn5c (shortM m) gs wr (blk_below bs hBW) (short_lies (HM.out.below (B3.trans (hBW.mono B3.size)))) (Nat.zero_le _)
        obtain ⟨s1, hs1⟩ : ∃ s, s = putS (padR (shortM m) ⟨#[]⟩) := ⟨_, rfl⟩
        obtain ⟨e1, he1⟩ : ∃ e, e = putE (padR (shortM m) ⟨#[]⟩) := ⟨_, rfl⟩
        rw [← hs1, ← he1] at kq
        have hp' : pick most ((s1, e1) :: []) = pick most (formL m true) := by rw [hs1, he1]; exact hp
        have HP := Lib.hid hp'
        have HK := Lib.hid hk
        clear hp hp' hs1 he1 hBW c0 c1 c2 hi hk bm bs bg
        go_wp2_with fail
        refine kq.mono ?_
        rintro e w5 ⟨rfl, hb⟩
        have B5 := HBW.out.trans (hb.mono HBW.out.size)
        clear hb kq
        by_cases h0 : e1 = 0
        · have t3 : (e1 == 0) = true := by simpa using h0
          by_cases h1 : (s1.size : Int) ≤ most
          · have t4 : decide ((s1.size : Int) ≤ most) = true := decide_eq_true h1
            have HT := Lib.hid (HF.out.trans (HP.out.symm.trans (pick_take h0 h1)))
            clear h0 h1
            go_wp2_with fail
            go_ret2
            refine ⟨?_, B3.trans (B5.mono B3.size)⟩
            rw [HT.out]
            rfl
          · have t4 : decide ((s1.size : Int) ≤ most) = false := decide_eq_false h1
            have HN := Lib.hid ((pick_skip (show ¬ (e1 = 0 ∧ (s1.size : Int) ≤ most) from fun k => h1 k.2)).symm.trans HP.out)
            clear h0 h1
            go_wp2_with fail
            go_roundg 1
            case measure => have := HK.out; omega
            case rel => exact ⟨3, rfl, rfl, by omega, B5, HN.out⟩
        · have t3 : (e1 == 0) = false := by simpa using h0
          have HN := Lib.hid ((pick_skip (show ¬ (e1 = 0 ∧ (s1.size : Int) ≤ most) from fun k => h0 k.1)).symm.trans HP.out)
          clear h0
          go_wp2_with fail
          go_roundg 1
          case measure => have := HK.out; omega
          case rel => exact ⟨3, rfl, rfl, by omega, B5, HN.out⟩
      · have HT := Lib.hid (HF.out.trans hp.symm)
        clear hp
        go_wp2_with fail
        go_ret2
        refine ⟨?_, B3.trans (HBW.out.mono B3.size)⟩
        rw [HT.out]
        rfl
end Go.Proofs.Ytjklgdpffmaamaa.Pad

namespace Go.Proofs.Ytjklgdpffmaamaa.Pad
open Go.RowKit Go.PlainAid Go.Proofs.Ytjklgdpffmaamaa.Base Go.Proofs.Ytjklgdpffmaamaa.Oct Go.Proofs.Ytjklgdpffmaamaa.Wm Go.Proofs.Ytjklgdpffmaamaa.OptH
open Go.Proofs.YtjklgdpffmaamaaW.PrintWords (blk_cell blk_below blk_put blk_frozen blk_ne blk_new blk_lt blk_grown blk_alloc)
set_option linter.unusedVariables false
set_option linter.unusedSimpArgs false
def mZ : MsgV := ⟨⟨0, false, 0, false, false, false, false, 0, 0⟩, none, 0, [], none, 0, [], none, 0, [], none, 0, []⟩
theorem mZ_lies (w : World) : mZ.Lies w := ⟨.inl rfl, .inl rfl, .inl rfl, .inl rfl, Nat.le_refl _, Nat.le_refl _, Nat.le_refl _, Nat.le_refl _, (by intro r hr; cases hr), (by intro r hr; cases hr), (by intro r hr; cases hr)⟩
theorem a1 : (queryS 258 ⟨#[1, 65, 0]⟩ 1).size = 128 ∧ (queryS 258 ⟨#[1, 65, 0]⟩ 1).extract 0 2 = ⟨#[1, 2]⟩ ∧ bt (queryS 258 ⟨#[1, 65, 0]⟩ 1) 13 = 97 ∧ queryE 258 ⟨#[1, 65, 0]⟩ 1 = 0 ∧ queryE (-1) ⟨#[0]⟩ 1 = 1000 := by decide +kernel
theorem a2 : (ansP mZ true 1232).1.size = 468 ∧ (ansP mZ true 1232).2 = 0 ∧ ansP mZ false 512 = (zeros 12, 0) ∧ ansP mZ false 5 = (⟨#[]⟩, 1001) := by decide +kernel
set_option maxHeartbeats 4000000 in
set_option maxRecDepth 100000 in
theorem awake10 (w : World) : Calls Try.prog 23 #[] w fun e w' => e = .returned (.bool true) ∧ Below w.heap.size w w' := by
  obtain ⟨s1, s2, s3, s4, s5⟩ := a1
  obtain ⟨u1, u2, u3, u4⟩ := a2
  have k1 := fun w => queryc 258 ⟨#[1, 65, 0]⟩ 1 w
  have k2 := fun w => queryc (-1) ⟨#[0]⟩ 1 w
  have k3 := fun w => answerc mZ true 1232 w (mZ_lies w)
  have k4 := fun w => answerc mZ false 512 w (mZ_lies w)
  have k5 := fun w => answerc mZ false 5 w (mZ_lies w)
  rw [s4] at k1
  rw [s5] at k2
  rw [u2] at k3
  rw [u3] at k4
  rw [u4] at k5
  dsimp only at k4 k5
  clear s4 s5 u2 u3 u4
  generalize queryS 258 ⟨#[1, 65, 0]⟩ 1 = S at *
  generalize queryS (-1) ⟨#[0]⟩ 1 = S2 at *
  generalize (ansP mZ true 1232).1 = T at *
  have n0 := fun w => Hd.numc 0 w
  have n1 := fun w => Hd.numc 1000 w
  have n2 := fun w => Hd.numc 1001 w
  have kr := fun w => roomc 5 10 (by decide) (by decide) w
  rw [show roomI 5 10 = 1 by decide] at kr
  have km : ∀ W : World, (Instr.makeSlice 56 (.int .i64 12) (.int .i64 12)).run Try.prog W = .ok (.slice (some ⟨W.heap.size, 0, none⟩) 12 12) (W.alloc (.cells (madeCells #[.int .u8 0] 12) 5)) := fun w => make_zeros 12 (by decide) w
  have kz : ∀ W : World, (convert 56 9 (.slice (some ⟨W.heap.size, 0, none⟩) 12 12)).run Try.prog (W.alloc (.cells (madeCells #[.int .u8 0] 12) 5)) = .ok (.string (zeros 12)) (W.alloc (.cells (madeCells #[.int .u8 0] 12) 5)) := fun w => conv_zeros 12 w
  have gb := get_bt S
  generalize zeros 12 = Z at *
  go_enter Try.func23, Try.ntmps23
  go_wp2_with fail
  refine (k1 _).mono ?_
  rintro e w1 ⟨rfl, B⟩
  go_wp2_with fail
  refine (k2 _).mono ?_
  rintro e w2 ⟨rfl, hb⟩
  replace B := B.trans (hb.mono B.size)
  clear hb
  go_wp2_with fail
  refine (k3 _).mono ?_
  rintro e w3 ⟨rfl, hb⟩
  replace B := B.trans (hb.mono B.size)
  clear hb
  go_wp2_with fail
  refine (k4 _).mono ?_
  rintro e w4 ⟨rfl, hb⟩
  replace B := B.trans (hb.mono B.size)
  clear hb
  go_wp2_with fail
  refine (k5 _).mono ?_
  rintro e w5 ⟨rfl, hb⟩
  replace B := B.trans (hb.mono B.size)
  clear hb k1 k2 k3 k4 k5
  go_wp2_with fail
  refine (n0 _).mono ?_
  rintro e w6 ⟨rfl, rfl⟩
  go_wp2_with fail
  refine (n1 _).mono ?_
  rintro e w6 ⟨rfl, rfl⟩
  go_wp2_with fail
  refine (n0 _).mono ?_
  rintro e w6 ⟨rfl, rfl⟩
  go_wp2_with fail
  refine (n0 _).mono ?_
  rintro e w6 ⟨rfl, rfl⟩
  go_wp2_with fail
  refine (n2 _).mono ?_
  rintro e w6 ⟨rfl, rfl⟩
  go_wp2_with fail
  refine (kr _).mono ?_
  rintro e w6 ⟨rfl, rfl⟩
  go_wp2_with fail
  go_ret
  exact ⟨rfl, B.alloc B.size _⟩
end Go.Proofs.Ytjklgdpffmaamaa.Pad

namespace Go.Proofs.Ytjklgdpffmaamaa.Pad
open Go.RowKit Go.PlainAid Go.Proofs.Ytjklgdpffmaamaa.Base Go.Proofs.Ytjklgdpffmaamaa.Oct Go.Proofs.Ytjklgdpffmaamaa.Nm Go.Proofs.Ytjklgdpffmaamaa.Wr Go.Proofs.Ytjklgdpffmaamaa.Wm Go.Proofs.Ytjklgdpffmaamaa.Fo
set_option linter.unusedVariables false
theorem low_bt (s : ByteArray) (i : Nat) (h : i < s.size) : bt (foldS s) i = if 65 ≤ bt s i ∧ bt s i ≤ 90 then bt s i + 32 else bt s i := by
  have hl : i < s.data.toList.length := by rw [len_data]; exact h
  rw [bt_data, bt_data]
  have e : (foldS s).data.toList.getD i 0 = lowB (s.data.toList.getD i 0) := by
    show ((s.data.toList.map lowB).toArray).toList.getD i 0 = _
    rw [List.getD_eq_getElem?_getD, List.getD_eq_getElem?_getD]
    simp only [List.getElem?_map]
    rw [List.getElem?_eq_getElem hl]
    rfl
  rw [e, low_nat]
  generalize (s.data.toList.getD i 0).toNat = x
  by_cases hx : 65 ≤ x ∧ x ≤ 90
  · rw [if_pos hx, if_pos (by omega)]; omega
  · rw [if_neg hx, if_neg (by omega)]
theorem fold_at (s : ByteArray) : ∀ d i, s.size - i ≤ d → nameAt (foldS s) i = nameAt s i := by
  intro d
  induction d with
  | zero => intro i hd; rw [nameAt_out (s := s) (by omega), nameAt_out (s := foldS s) (by rw [foldS_size]; omega)]
  | succ d ih =>
    intro i hd
    by_cases hi : i < s.size
    · have hi' : i < (foldS s).size := by rw [foldS_size]; exact hi
      have hb := low_bt s i hi
      have hn := bt_nonneg s i
      by_cases h0 : bt s i = 0
      · rw [h0, if_neg (by omega)] at hb
        rw [nameAt_end hi h0, nameAt_end hi' hb, foldS_size]
      · by_cases h1 : bt s i ≤ 63
        · rw [if_neg (by omega)] at hb
          rw [nameAt_next hi h0 h1, nameAt_next hi' (by rw [hb]; exact h0) (by rw [hb]; exact h1), hb]
          exact ih _ (by omega)
        · rw [nameAt_bad hi (by omega), nameAt_bad hi' (by rw [hb]; split <;> omega)]
    · rw [nameAt_out (s := s) (by omega), nameAt_out (s := foldS s) (by rw [foldS_size]; omega)]
theorem fold_name {s : ByteArray} (h : nameB s = true) : nameB (foldN s) = true ∧ (foldN s).size = s.size := by
  unfold foldN
  rw [if_pos h]
  refine ⟨?_, foldS_size s⟩
  unfold nameB at h ⊢
  rw [foldS_size, fold_at s s.size 0 (by omega)]
  exact h
theorem may_41 {d : ByteArray} (h : d.size ≤ 65535) : Rd.mayD 41 d = true := by
  unfold Rd.mayD
  rw [if_neg (by decide), if_neg (by decide), if_neg (by omega)]
  simp
/-- An OPT behind: eleven bytes and its data. -/
theorem opt_st {st : St} (H : Wm.Good st) (d : ByteArray) (hz : st.S.size + 11 + d.size ≤ 4096) : (rSt st (optR d)).lg = false ∧ (rSt st (optR d)).S.size = st.S.size + 11 + d.size := by
  have hn : nameB (optR d).name = true := by show nameB root = true; decide +kernel
  have ho : (outN st.m (optR d).name).size = 1 := by show (outN st.m root).size = 1; rw [outN_root]; rfl
  have z4 : (p16 (optR d).type ++ p16 (optR d).cls).size = 4 := by rw [ByteArray.size_append, p16_size, p16_size]
  have z6 : (p32 (optR d).ttl ++ p16 ((optR d).data.size : Int) ++ (optR d).data).size = 6 + d.size := by simp only [ByteArray.size_append, p16_size, p32_size]; rfl
  have e : rSt st (optR d) = ⟨st.S ++ outN st.m (optR d).name ++ (p16 (optR d).type ++ p16 (optR d).cls) ++ (p32 (optR d).ttl ++ p16 ((optR d).data.size : Int) ++ (optR d).data), putN st.m (optR d).name st.S.size, st.lg⟩ := by
    unfold rSt qSt nameSt
    rw [if_pos hn, if_neg (by omega)]
    unfold rawSt
    have c1 : ¬ 4096 < (st.S ++ outN st.m (optR d).name).size + (p16 (optR d).type ++ p16 (optR d).cls).size := by rw [ByteArray.size_append, z4]; omega
    have c2 : ¬ 4096 < (st.S ++ outN st.m (optR d).name ++ (p16 (optR d).type ++ p16 (optR d).cls)).size + (p32 (optR d).ttl ++ p16 ((optR d).data.size : Int) ++ (optR d).data).size := by rw [ByteArray.size_append, ByteArray.size_append, z4, z6]; omega
    simp only [if_neg c1, if_neg c2]
  rw [e]
  refine ⟨H.lg, ?_⟩
  simp only [ByteArray.size_append, ho, p16_size, p32_size]
  show st.S.size + 1 + (2 + 2) + (4 + 2 + d.size) = _
  omega
theorem opt_may {d : ByteArray} (h : d.size ≤ 65535) : rMay (optR d) = true := by
  unfold rMay
  simp only [Bool.and_eq_true, inB_iff]
  exact ⟨⟨⟨⟨by show nameB root = true; decide +kernel, show (1 : Int) ≤ 41 by decide, show (41 : Int) ≤ 65535 by decide⟩, show (0 : Int) ≤ 1232 by decide, show (1232 : Int) ≤ 65535 by decide⟩, show (0 : Int) ≤ 0 by decide, show (0 : Int) ≤ 4294967295 by decide⟩, may_41 h⟩
/-- A question and an OPT. -/
theorem q_opt_put {id : Int} {n : ByteArray} {t : Int} (hid : 0 ≤ id ∧ id ≤ 65535) (hn : nameB n = true) (ht : 1 ≤ t ∧ t ≤ 65535) (d : ByteArray) (hd : d.size ≤ 1000) :
    putE (padR (msgOf ⟨id, false, 0, false, false, false, false, 0, 0⟩ [⟨n, t, 1⟩] [] [] []) d) = 0 ∧ (putS (padR (msgOf ⟨id, false, 0, false, false, false, false, 0, 0⟩ [⟨n, t, 1⟩] [] [] []) d)).size = 27 + n.size + d.size := by
  have hs := name_size hn
  have hok : putOk (padR (msgOf ⟨id, false, 0, false, false, false, false, 0, 0⟩ [⟨n, t, 1⟩] [] [] []) d) = true := by
    unfold putOk
    rw [Bool.and_eq_true]
    refine ⟨?_, ?_⟩
    · show Hd.mayB ⟨id, false, 0, false, false, false, false, 0, 0⟩ ((1 : Nat) : Int) ((0 : Nat) : Int) ((0 : Nat) : Int) ((1 : Nat) : Int) = true
      refine decide_eq_true ⟨⟨⟨by decide, by decide⟩, ⟨by decide, by decide⟩, ⟨by decide, by decide⟩, ⟨by decide, by decide⟩⟩, ?_⟩
      exact ⟨hid, ⟨show (0 : Int) ≤ 0 by decide, show (0 : Int) ≤ 15 by decide⟩, ⟨show (0 : Int) ≤ 0 by decide, show (0 : Int) ≤ 15 by decide⟩, ⟨show (0 : Int) ≤ 0 by decide, show (0 : Int) ≤ 7 by decide⟩⟩
    · show fitsB [⟨n, t, 1⟩] [] [] [optR d] = true
      have mq : qMay ⟨n, t, 1⟩ = true := by
        unfold qMay
        simp only [Bool.and_eq_true, inB_iff]
        exact ⟨⟨hn, ht⟩, by decide, by decide⟩
      unfold fitsB
      simp only [Bool.and_eq_true, List.all_eq_true, decide_eq_true_eq]
      refine ⟨⟨⟨⟨by simp, fun q hq => ?_⟩, by decide, fun q hq => by simp at hq⟩, by decide, fun q hq => by simp at hq⟩, by simp, fun q hq => ?_⟩
      · rw [List.mem_singleton.1 hq]; exact mq
      · rw [List.mem_singleton.1 hq]; exact opt_may (by omega)
  obtain ⟨k0, e0, _⟩ := putOk_parts hok
  have z : (hStr (padR (msgOf ⟨id, false, 0, false, false, false, false, 0, 0⟩ [⟨n, t, 1⟩] [] [] []) d)).size = 12 := by rw [e0, Hd.putS_size]
  have es := st0_ok z
  have q : (qSt (st0 (hStr (padR (msgOf ⟨id, false, 0, false, false, false, false, 0, 0⟩ [⟨n, t, 1⟩] [] [] []) d))) n t 1) = ⟨hStr (padR (msgOf ⟨id, false, 0, false, false, false, false, 0, 0⟩ [⟨n, t, 1⟩] [] [] []) d) ++ n ++ (p16 t ++ p16 1), putN (fun _ => none) n 12, false⟩ := by
    rw [es]
    unfold qSt nameSt
    rw [if_pos hn]
    dsimp only
    rw [outN_plain, if_neg (by omega), z]
    unfold rawSt
    rw [if_neg (by simp only [ByteArray.size_append, p16_size]; omega)]
  have G : Wm.Good (qSt (st0 (hStr (padR (msgOf ⟨id, false, 0, false, false, false, false, 0, 0⟩ [⟨n, t, 1⟩] [] [] []) d))) n t 1) := Wm.Good.q (fun _ => st0_good z) (by rw [q])
  have zz : (qSt (st0 (hStr (padR (msgOf ⟨id, false, 0, false, false, false, false, 0, 0⟩ [⟨n, t, 1⟩] [] [] []) d))) n t 1).S.size = 16 + n.size := by
    rw [q]; simp only [ByteArray.size_append, p16_size, z]; omega
  obtain ⟨l1, l2⟩ := opt_st G d (by rw [zz]; omega)
  have l1 : (putEnd (padR (msgOf ⟨id, false, 0, false, false, false, false, 0, 0⟩ [⟨n, t, 1⟩] [] [] []) d)).lg = false := l1
  obtain ⟨s1, s2, s3, s4⟩ := put_S hok l1
  refine ⟨s2, ?_⟩
  rw [s1]
  refine Eq.trans l2 ?_
  rw [zz]
  omega
theorem optD_size (k : Nat) : (optD k).size = 4 + k := by unfold optD; simp only [ByteArray.size_append, p16_size, zeros_size]
theorem query_size {id : Int} {n : ByteArray} {t : Int} (h : fineB id n t = true) : (queryS id n t).size = (n.size + 158) / 128 * 128 := by
  have h' := h
  unfold fineB at h'
  simp only [Bool.and_eq_true, decide_eq_true_eq] at h'
  obtain ⟨⟨⟨⟨i0, i1⟩, hn⟩, t0⟩, t1⟩ := h'
  obtain ⟨f1, f2⟩ := fold_name hn
  have hs := name_size hn
  unfold queryS
  rw [if_pos h]
  obtain ⟨e0, z0⟩ := q_opt_put ⟨i0, i1⟩ f1 ⟨t0, t1⟩ ⟨#[]⟩ (by decide)
  have e0 : putE (padR (qMsg id n t) ⟨#[]⟩) = 0 := e0
  have z0 : (putS (padR (qMsg id n t) ⟨#[]⟩)).size = 27 + (foldN n).size + 0 := z0
  unfold padS
  rw [if_pos e0]
  have hr : roomN (qMsg id n t) 128 = (roomI ((27 + n.size : Nat) : Int) 128).toNat := by unfold roomN; rw [z0, f2]; rfl
  obtain ⟨r0, r1⟩ := room_bd ((27 + n.size : Nat) : Int) 128 (by decide)
  have r2 := room_fill ((27 + n.size : Nat) : Int) 128 (by omega) (by decide)
  obtain ⟨k, hk⟩ : ∃ k : Nat, roomI ((27 + n.size : Nat) : Int) 128 = (k : Int) := ⟨(roomI ((27 + n.size : Nat) : Int) 128).toNat, by omega⟩
  rw [hr, hk, Int.toNat_natCast]
  rw [hk] at r0 r1 r2
  obtain ⟨_, z1⟩ := q_opt_put ⟨i0, i1⟩ f1 ⟨t0, t1⟩ (optD k) (by rw [optD_size]; omega)
  have z1 : (putS (padR (qMsg id n t) (optD k))).size = 27 + (foldN n).size + (optD k).size := z1
  rw [z1, f2, optD_size]
  omega
theorem query_bad {id : Int} {n : ByteArray} {t : Int} (h : fineB id n t = false) : queryS id n t = ⟨#[]⟩ ∧ queryE id n t = 1000 := ⟨if_neg (by rw [h]; decide), if_neg (by rw [h]; decide)⟩
theorem query_ok {id : Int} {n : ByteArray} {t : Int} (h : fineB id n t = true) : queryE id n t = 0 := if_pos h
end Go.Proofs.Ytjklgdpffmaamaa.Pad

namespace Go.Proofs.Ytjklgdpffmaamaa.Wm
open Go.RowKit Go.PlainAid Go.Proofs.Ytjklgdpffmaamaa.Base Go.Proofs.Ytjklgdpffmaamaa.Oct Go.Proofs.Ytjklgdpffmaamaa.Nm Go.Proofs.Ytjklgdpffmaamaa.Wr Go.Proofs.Ytjklgdpffmaamaa.PCm Go.Proofs.Ytjklgdpffmaamaa.CompS Go.Proofs.Ytjklgdpffmaamaa.Pu
open Go.Proofs.YtjklgdpffmaamaaW.PrintWords (Ev bytesOf bytesOf_length LeO)
set_option linter.unusedVariables false
/-! ### A name -/
theorem l_full {s : ByteArray} {i : Int} {out : List Int} {bg bh : Int} (h : 255 ≤ out.length) : Ev (fun k => comp_Name.l0 k s i out bg bh) err := by
  by_cases hi : i < (s.size : Int)
  · refine Ev.step (fun k => by rw [comp_Name.l0]) (Ev.pos hi ?_)
    rw [decide_eq_false (show ¬ (out.length : Int) < 255 by omega)]
    exact Ev.step (fun k => by rw [comp_Name.j1]) (Ev.neg (by simp) (Ev.now _))
  · exact l_end (by omega)
theorem l_short {s : ByteArray} {i : Int} {out : List Int} {bg bh b : Int} (hs : s.size ≤ 1000000) (h0 : 0 ≤ i) (h : i < (s.size : Int)) (ho : out.length < 255) (hb : Go.Proofs.YtjklgdpffmaamaaW.PrintWords.bt s i = b) (hz : b ≠ 0) (h63 : b ≤ 63) (hf : (s.size : Int) - i ≤ b) :
    Ev (fun k => comp_Name.l0 k s i out bg bh) err := by
  refine l_go h0 h ho hb hz (fun _ => ?_) (fun h => by omega)
  rw [Pu.w64 (x := (s.size : Int) - i) (by omega) (by omega), decide_eq_false (show ¬ b < (s.size : Int) - i by omega)]
  refine Ev.step (fun k => by rw [comp_Name.j2]) (Ev.neg (by simp) (Ev.neg (by omega) ?_))
  exact Ev.step (fun k => by rw [comp_Name.j3]) (Ev.neg (by simp) (Ev.now _))
theorem l_jump {s : ByteArray} {i : Int} {out : List Int} {bg bh b c tg : Int} {r : ByteArray × Int × Int} (hs : s.size ≤ 1000000) (h0 : 0 ≤ i) (h : i + 1 < (s.size : Int)) (ho : out.length < 255) (hb : Go.Proofs.YtjklgdpffmaamaaW.PrintWords.bt s i = b) (h192 : 192 ≤ b) (hc : Go.Proofs.YtjklgdpffmaamaaW.PrintWords.bt s (i + 1) = c) (htg : tg = (b - 192) * 256 + c) (hto : tg < bg)
    (k : Ev (fun k => comp_Name.l0 k s tg out tg (if bh < 0 then i + 2 else bh)) r) : Ev (fun k => comp_Name.l0 k s i out bg bh) r := by
  have r1 := Go.Proofs.YtjklgdpffmaamaaW.PrintWords.bt_range s i
  have r2 := Go.Proofs.YtjklgdpffmaamaaW.PrintWords.bt_range s (i + 1)
  rw [hb] at r1
  rw [hc] at r2
  have e := to_eq h192 r1.2 r2.1 r2.2
  refine l_go h0 (by omega) ho hb (by omega) (fun h => by omega) (fun _ => ?_)
  refine Ev.step (fun k => by rw [comp_Name.j2]) (Ev.neg (by simp) (Ev.pos (by omega) ?_))
  rw [Pu.w64 (x := i + 1) (by omega) (by omega), decide_eq_true (show i + 1 < (s.size : Int) by omega)]
  refine Ev.step (fun k => by rw [comp_Name.j3]) (Ev.pos rfl ?_)
  rw [Pu.w64 (x := i + 1) (by omega) (by omega), hc, e, ← htg]
  refine Ev.pos (by omega) (Ev.pos (by omega) (Ev.neg (by omega) ?_))
  by_cases hbh : bh < 0
  · refine Ev.pos hbh ?_
    rw [if_pos hbh] at k
    rw [Pu.w64 (x := i + 2) (by omega) (by omega)]
    exact k
  · refine Ev.neg hbh ?_
    rw [if_neg hbh] at k
    exact k
theorem meas {bg tg n l : Nat} (h : 350 * bg + 350 ≤ n + 1 + l) (h2 : tg + 1 ≤ bg) : 350 * tg + 350 ≤ n + l := by omega
theorem l_total {S : ByteArray} (hS : S.size ≤ 1000000) : ∀ (n bg i : Nat) (out : List Int) (bh : Int), 350 * bg + 350 ≤ n + out.length → out.length ≤ 330 → Ev (fun k => comp_Name.l0 k S (i : Int) out (bg : Int) bh) err ∨ ∃ r nx, Lies S bg r i nx ∧ out.length + r.size ≤ 255 := by
  intro n
  induction n with
  | zero => intro bg i out bh h h2; omega
  | succ n ih =>
    intro bg i out bh h h2
    by_cases ho : 255 ≤ out.length
    · exact .inl (l_full ho)
    by_cases hi : S.size ≤ i
    · exact .inl (l_end (by omega))
    have hb := bt_is S i
    have r0 := bt_nonneg S i
    have r1 := bt_le S i
    obtain ⟨b, eb⟩ : ∃ b : Nat, bt S i = (b : Int) := ⟨(bt S i).toNat, by omega⟩
    rw [eb] at hb r0 r1
    by_cases hz : b = 0
    · exact .inr ⟨root, i + 1, .fin bg i (by omega) (by rw [eb, hz]; rfl), by have : root.size = 1 := rfl; omega⟩
    by_cases h63 : b ≤ 63
    · by_cases hf : i + 1 + b ≤ S.size
      · have z : (S.extract i (i + 1 + b)).size = 1 + b := by rw [ByteArray.size_extract]; omega
        have e : ((i : Int) + 1 + (b : Int)) = ((i + 1 + b : Nat) : Int) := by omega
        rcases ih bg (i + 1 + b) (out ++ bytesOf (S.extract i (i + 1 + b))) bh (by rw [List.length_append, bytesOf_length, z]; omega) (by rw [List.length_append, bytesOf_length, z]; omega) with k | ⟨r, nx, k, hk⟩
        · refine .inl (l_lab (b := (b : Int)) hS (by omega) (by omega) hb (by omega) (by omega) (by omega) ?_)
          rw [e]
          exact k
        · rw [List.length_append, bytesOf_length, z] at hk
          refine .inr ⟨_, nx, .lab bg i b r nx eb (by omega) h63 hf k, ?_⟩
          rw [ByteArray.size_append, z]; omega
      · exact .inl (l_short hS (by omega) (by omega) (by omega) hb (by omega) (by omega) (by omega))
    · by_cases h192 : b < 192 ∨ S.size ≤ i + 1
      · exact .inl (l_bad hS (by omega) (by omega) (by omega) hb (by omega) (by omega))
      · have hc := bt_is S (i + 1)
        have s0 := bt_nonneg S (i + 1)
        have s1 := bt_le S (i + 1)
        obtain ⟨c, ec⟩ : ∃ c : Nat, bt S (i + 1) = (c : Int) := ⟨(bt S (i + 1)).toNat, by omega⟩
        rw [ec] at hc s0 s1
        have e1 : ((i + 1 : Nat) : Int) = (i : Int) + 1 := by omega
        rw [e1] at hc
        obtain ⟨tg, htg⟩ : ∃ tg : Nat, tg = (b - 192) * 256 + c := ⟨_, rfl⟩
        have htg2 : (tg : Int) = ((b : Int) - 192) * 256 + (c : Int) := by omega
        by_cases hto : bg ≤ tg
        · exact .inl (l_ptr hS (by omega) (by omega) (by omega) hb (by omega) hc (by omega))
        · rcases ih tg tg out (if bh < 0 then (i : Int) + 2 else bh) (meas h (by omega)) h2 with k | ⟨r, nx, k, hk⟩
          · exact .inl (l_jump hS (by omega) (by omega) (by omega) hb (by omega) hc htg2 (by omega) k)
          · exact .inr ⟨r, i + 2, .ptr bg i b c tg r nx eb ec (by omega) htg (by omega) (by omega) k, hk⟩
theorem lies_may {S : ByteArray} {bg : Nat} {r : ByteArray} {i nx : Nat} (h : Lies S bg r i nx) (hr : r.size ≤ 255) : nameB r = true := by
  induction h with
  | fin bg i h h0 => decide +kernel
  | lab bg i k r nx hb h0 h1 h _ ih =>
    have z : (S.extract i (i + 1 + k)).size = k + 1 := by rw [ByteArray.size_extract]; omega
    rw [ByteArray.size_append, z] at hr
    refine (label_ahead _ _ k h0 h1 z ?_ (ih (by omega)) (by omega)).1
    rw [bt_data, ext_list, List.getD_eq_getElem?_getD, List.getElem?_drop, List.getElem?_take_of_lt (by omega), Nat.add_zero, ← List.getD_eq_getElem?_getD, ← bt_data]
    exact hb
  | ptr _ _ _ _ _ _ _ _ _ _ _ _ _ _ ih => exact ih hr
theorem lies_next {S : ByteArray} {bg : Nat} {r : ByteArray} {i nx : Nat} (h : Lies S bg r i nx) : i < nx ∧ nx ≤ S.size := by
  induction h with
  | fin bg i h h0 => omega
  | lab bg i k r nx hb h0 h1 h _ ih => omega
  | ptr bg i b c tg r nx hb hc h0 ht hlt h _ _ => omega
/-! ### Names, data -/
abbrev no : ByteArray × Int := ((⟨#[]⟩ : ByteArray), 500)
theorem data_out {s : ByteArray} {i z t : Int} (hs : s.size ≤ 1000000) (h0 : 0 ≤ i) (h1 : 0 ≤ z) (h2 : (s.size : Int) < i + z) : Ev (fun k => comp_Data.f k s i z t) no := by
  refine Ev.neg (by omega) (Ev.neg (by omega) ?_)
  by_cases h : i > (s.size : Int)
  · exact Ev.pos h (Ev.step (fun k => by rw [comp_Data.j0]) (Ev.pos rfl (Ev.now _)))
  · refine Ev.neg h ?_
    rw [Pu.w64 (x := (s.size : Int) - i) (by omega) (by omega), decide_eq_true (show z > (s.size : Int) - i by omega)]
    exact Ev.step (fun k => by rw [comp_Data.j0]) (Ev.pos rfl (Ev.now _))
theorem data_plain_no {s : ByteArray} {i z : Nat} {t : Int} (hs : s.size ≤ 1000000) (h2 : i + z ≤ s.size) (hsh : Ev (fun k => comp_shape.f k t) (0, 0, 0)) (hm : Rd.mayD t (s.extract i (i + z)) = false) :
    Ev (fun k => comp_Data.f k s (i : Int) (z : Int) t) no := by
  refine data_in hs (by omega) (by omega) (by omega) ?_
  refine Ev.step (fun k => by rw [comp_Data.j0]) (Ev.neg (by decide) ?_)
  rw [Pu.w64 (x := (i : Int) + (z : Int)) (by omega) (by omega)]
  refine Ev.pos (by omega) (Ev.pos (by omega) (Ev.pos (by omega) (Ev.bind hsh (Ev.neg (by decide) (Ev.call (may_eq _ _ ?_) ?_)))))
  · rw [ByteArray.size_extract]; omega
  rw [show ((i : Int) + (z : Int)).toNat = i + z by omega, Int.toNat_natCast, hm]
  exact Ev.neg (by decide) (Ev.now _)
theorem data_names_no {s ns : ByteArray} {i z a more : Nat} {q e many t : Int} (hs : s.size ≤ 1000000) (hn : ns.size ≤ 600) (h2 : i + z ≤ s.size) (ha : a ≤ 100) (hmo : more ≤ 100) (hsh : Ev (fun k => comp_shape.f k t) ((a : Int), many, (more : Int))) (hmn : 0 < many)
    (hq : Ev (fun k => comp_names.f k s ((i + a : Nat) : Int) many) (ns, q, e)) (hne : e = 0 → ∃ q' : Nat, q = (q' : Int) ∧ q' ≤ s.size ∧ (q' + more = i + z → a + more ≤ z → Rd.mayD t (s.extract i (i + a) ++ ns ++ s.extract q' (i + z)) = false)) :
    Ev (fun k => comp_Data.f k s (i : Int) (z : Int) t) no := by
  refine data_in hs (by omega) (by omega) (by omega) ?_
  refine Ev.step (fun k => by rw [comp_Data.j0]) (Ev.neg (by decide) ?_)
  rw [Pu.w64 (x := (i : Int) + (z : Int)) (by omega) (by omega)]
  refine Ev.pos (by omega) (Ev.pos (by omega) (Ev.pos (by omega) (Ev.bind hsh (Ev.pos (by show many > 0; omega) ?_))))
  dsimp only
  rw [Pu.w64 (x := (a : Int) + (more : Int)) (by omega) (by omega), Pu.w64 (x := (i : Int) + (a : Int)) (by omega) (by omega), show (i : Int) + (a : Int) = ((i + a : Nat) : Int) by omega]
  by_cases ham : a + more ≤ z
  · refine Ev.neg (by omega) (Ev.bind hq ?_)
    dsimp only
    by_cases he : e = 0
    · obtain ⟨q', rfl, hql, hm⟩ := hne he
      refine Ev.pos he ?_
      rw [Pu.w64 (x := (i : Int) + (z : Int) - (more : Int)) (by omega) (by omega)]
      by_cases hqz : q' + more = i + z
      · rw [show ((q' : Int) != (i : Int) + (z : Int) - (more : Int)) = false by simp; omega]
        refine Ev.step (fun k => by rw [comp_Data.j1]) (Ev.neg (by decide) ?_)
        rw [Pu.w64 (x := (i : Int) + (a : Int)) (by omega) (by omega), show (i : Int) + (a : Int) = ((i + a : Nat) : Int) by omega, show (i : Int) + (z : Int) = ((i + z : Nat) : Int) by omega]
        simp only [Int.toNat_natCast]
        refine Ev.pos (by omega) (Ev.pos (by omega) (Ev.pos (by omega) (Ev.pos ?_ (Ev.pos (by omega) (Ev.pos (by omega) (Ev.pos (by omega) (Ev.pos ?_ (Ev.call (may_eq _ _ ?_) ?_))))))))
        · rw [ByteArray.size_extract]; omega
        · rw [ByteArray.size_append, ByteArray.size_extract, ByteArray.size_extract]; omega
        · rw [ByteArray.size_append, ByteArray.size_append, ByteArray.size_extract, ByteArray.size_extract]; omega
        rw [hm hqz ham]
        exact Ev.neg (by decide) (Ev.now _)
      · rw [show ((q' : Int) != (i : Int) + (z : Int) - (more : Int)) = true by simp; omega]
        exact Ev.step (fun k => by rw [comp_Data.j1]) (Ev.pos rfl (Ev.now _))
    · refine Ev.neg he ?_
      exact Ev.step (fun k => by rw [comp_Data.j1]) (Ev.pos rfl (Ev.now _))
  · exact Ev.pos (by omega) (Ev.now _)
theorem app_nil (s : ByteArray) : s ++ (⟨#[]⟩ : ByteArray) = s := ByteArray.append_empty
/-! ### A question, a record -/
theorem num_bad {r : Rs} {x : Int × Int × Int} (h : r.bad = true ∨ x.2.2 ≠ 0) : numV r x = (0, ⟨r.at_, true⟩) := by
  unfold numV
  rw [if_pos]
  rcases h with h | h
  · rw [h]; rfl
  · simp [h]
theorem num16_no {s : ByteArray} {i : Nat} (h : ¬ i + 2 ≤ s.size) (b : Bool) : numV ⟨(i : Int), b⟩ (u16V s (i : Int)) = (0, ⟨(i : Int), true⟩) := by
  refine num_bad (.inr ?_)
  unfold u16V
  rw [if_neg (show ¬ (0 ≤ (i : Int) ∧ (i : Int) + 2 ≤ (s.size : Int)) by omega)]
  decide
theorem num32_no {s : ByteArray} {i : Nat} (h : ¬ i + 4 ≤ s.size) (b : Bool) : numV ⟨(i : Int), b⟩ (u32V s (i : Int)) = (0, ⟨(i : Int), true⟩) := by
  refine num_bad (.inr ?_)
  unfold u32V
  rw [if_neg (show ¬ (0 ≤ (i : Int) ∧ (i : Int) + 4 ≤ (s.size : Int)) by omega)]
  decide
/-! ### Lists -/
theorem loopQ_bad {k : Nat} {S : ByteArray} (n : Nat) {r : Rs} (acc : List Qn) (h : r.bad = true) : loopQ k S n r acc = some (acc, r) := by
  cases n with
  | zero => rfl
  | succ n => unfold loopQ; rw [if_pos h]
theorem loopR_bad {k : Nat} {S : ByteArray} (n : Nat) {r : Rs} (acc : List Rr) (h : r.bad = true) : loopR k S n r acc = some (acc, r) := by
  cases n with
  | zero => rfl
  | succ n => unfold loopR; rw [if_pos h]
theorem listR_badstart {k : Nat} {S : ByteArray} (n : Nat) (j : Int) : listR k S n ⟨j, true⟩ = some ([], ⟨j, true⟩) := by
  unfold listR
  exact loopR_bad n [] rfl
end Go.Proofs.Ytjklgdpffmaamaa.Wm

namespace Go.Proofs.Ytjklgdpffmaamaa.PRf
open Go.RowKit Go.Proofs.YtjklgdpffmaamaaW.PrintWords Go.Proofs.YtjklgdpffmaamaaW.PrintLast Go.Proofs.YtjklgdpffmaamaaW.PrintMore
attribute [local go_sem] max2_int min2_int max_two min_two max_three min_three max_four min_four   -- for this text's walks alone
set_option linter.unusedVariables false
set_option linter.unusedSimpArgs false

def errW : Option Int → Value
  | none => .nilIface
  | some c => .iface 0 (.int .i64 c)
theorem errW_none : errW none = .nilIface := rfl
theorem errW_some (c : Int) : errW (some c) = .iface 0 (.int .i64 c) := rfl

-- the values' own types
/-! #### struct type 131 -/
structure S131 where
  f0 : ByteArray
  f1 : Int
end Go.Proofs.Ytjklgdpffmaamaa.PRf

namespace Go.Proofs.Ytjklgdpffmaamaa.PRf
open Go.RowKit Go.Proofs.YtjklgdpffmaamaaW.PrintWords Go.Proofs.YtjklgdpffmaamaaW.PrintLast Go.Proofs.YtjklgdpffmaamaaW.PrintMore
attribute [local go_sem] max2_int min2_int max_two min_two max_three min_three max_four min_four   -- for this text's walks alone
set_option linter.unusedVariables false
set_option linter.unusedSimpArgs false

/-! ### wimpleref1_May: function 32 -/
def wimpleref1_May.f (a0 : ByteArray) : Option (Bool) := some (Go.Proofs.Ytjklgdpffmaamaa.Nm.nameB a0)
set_option maxHeartbeats 8000000 in
set_option maxRecDepth 100000 in
theorem wimpleref1_May.calls (a0 : ByteArray) (r : Bool) (w : World) (h : wimpleref1_May.f a0 = some r) :
    Calls Try.prog 32 #[.string a0] w fun e w' => e = .returned (.bool r) ∧ Below w.heap.size w w' := by
  unfold wimpleref1_May.f at h
  simp only [Option.some.injEq] at h
  subst h
  exact Go.Proofs.Ytjklgdpffmaamaa.Nm.rmay a0 w

/-! ### wimpleref1_Num: function 54 -/
mutual
def wimpleref1_Num.j0 : Nat → ByteArray → Int → Int → Bool → Option (Int × Int × Int)
  | 0, _, _, _, _ => none
  | k + 1, x0, x1, x2, x26 => if x26 = true then (some (0, 0, 300)) else (wimpleref1_Num.l0 k x0 x1 x2 0 0)
def wimpleref1_Num.l0 : Nat → ByteArray → Int → Int → Int → Int → Option (Int × Int × Int)
  | 0, _, _, _, _, _ => none
  | k + 1, x0, x1, x2, x9, x10 => if x10 < x2 then (if 0 ≤ (wrap64 (x1 + x10)) then (if (wrap64 (x1 + x10)) < (x0.size : Int) then (wimpleref1_Num.l0 k x0 x1 x2 (Go.bits .or .i64 (wrap64 (x9 * 256)) (wrap64 (bt x0 (wrap64 (x1 + x10))))) (wrap64 (x10 + 1))) else (none)) else (none)) else (some (x9, wrap64 (x1 + x2), 0))
end
def wimpleref1_Num.f (k : Nat) (a0 : ByteArray) (a1 : Int) (a2 : Int) : Option (Int × Int × Int) := if a1 < 0 then (wimpleref1_Num.j0 k a0 a1 a2 true) else (if a1 > (a0.size : Int) then (wimpleref1_Num.j0 k a0 a1 a2 true) else (wimpleref1_Num.j0 k a0 a1 a2 (decide (a2 > (wrap64 ((a0.size : Int) - a1))))))
theorem wimpleref1_Num.mono_l : ∀ k, (∀ y0 y1 y2 y3, LeO (wimpleref1_Num.j0 k y0 y1 y2 y3) (wimpleref1_Num.j0 (k + 1) y0 y1 y2 y3)) ∧ (∀ y0 y1 y2 y3 y4, LeO (wimpleref1_Num.l0 k y0 y1 y2 y3 y4) (wimpleref1_Num.l0 (k + 1) y0 y1 y2 y3 y4))
  | 0 => ⟨fun _ _ _ _ r h => by simp [wimpleref1_Num.j0] at h, fun _ _ _ _ _ r h => by simp [wimpleref1_Num.l0] at h⟩
  | k + 1 => by
    obtain ⟨ih0, ih1⟩ := wimpleref1_Num.mono_l k
    refine ⟨?_, ?_⟩
    · intro y0 y1 y2 y3
      unfold wimpleref1_Num.j0
      repeat' first
      | (with_reducible exact ih0 _ _ _ _)
      | (with_reducible exact ih1 _ _ _ _ _)
      | (with_reducible exact LeO.refl _)
      | (with_reducible exact LeO.none _)
      | (with_reducible refine LeO.ite ?_ ?_)
      | (with_reducible refine LeO.bind ?_ (fun _ => ?_))
      | exact ih0 _ _ _ _
      | exact ih1 _ _ _ _ _
      | exact LeO.none _
      | refine LeO.ite ?_ ?_
      | refine LeO.bind ?_ (fun _ => ?_)
    · intro y0 y1 y2 y3 y4
      unfold wimpleref1_Num.l0
      repeat' first
      | (with_reducible exact ih0 _ _ _ _)
      | (with_reducible exact ih1 _ _ _ _ _)
      | (with_reducible exact LeO.refl _)
      | (with_reducible exact LeO.none _)
      | (with_reducible refine LeO.ite ?_ ?_)
      | (with_reducible refine LeO.bind ?_ (fun _ => ?_))
      | exact ih0 _ _ _ _
      | exact ih1 _ _ _ _ _
      | exact LeO.none _
      | refine LeO.ite ?_ ?_
      | refine LeO.bind ?_ (fun _ => ?_)
theorem wimpleref1_Num.mono : ∀ a0 a1 a2 k, LeO (wimpleref1_Num.f k a0 a1 a2) (wimpleref1_Num.f (k + 1) a0 a1 a2) := by
  intro a0 a1 a2 k
  obtain ⟨ih0, ih1⟩ := wimpleref1_Num.mono_l k
  unfold wimpleref1_Num.f
  repeat' first
      | (with_reducible exact ih0 _ _ _ _)
      | (with_reducible exact ih1 _ _ _ _ _)
      | (with_reducible exact LeO.refl _)
      | (with_reducible exact LeO.none _)
      | (with_reducible refine LeO.ite ?_ ?_)
      | (with_reducible refine LeO.bind ?_ (fun _ => ?_))
      | exact ih0 _ _ _ _
      | exact ih1 _ _ _ _ _
      | exact LeO.none _
      | refine LeO.ite ?_ ?_
      | refine LeO.bind ?_ (fun _ => ?_)
set_option maxHeartbeats 8000000 in
set_option maxRecDepth 100000 in
theorem wimpleref1_Num.calls (k : Nat) (a0 : ByteArray) (a1 : Int) (a2 : Int) (r1 : Int) (r2 : Int) (r3 : Int) (w : World) (h : wimpleref1_Num.f k a0 a1 a2 = some (r1, r2, r3)) :
    Calls Try.prog 54 #[.string a0, .int .i64 a1, .int .i64 a2] w fun e w' => e = .returned (.tuple #[.int .i64 r1, .int .i64 r2, .int .i64 r3]) ∧ Drawn0 w w' := by
  have H : (if a1 < 0 then (wimpleref1_Num.j0 k a0 a1 a2 true) else (if a1 > (a0.size : Int) then (wimpleref1_Num.j0 k a0 a1 a2 true) else (wimpleref1_Num.j0 k a0 a1 a2 (decide (a2 > (wrap64 ((a0.size : Int) - a1))))))) = some (r1, r2, r3) := h
  clear h
  have HC4 := Aside0.mk H
  clear H
  go_enter Try.func54, Try.ntmps54
  go_upto_region 1 with (fail)
  go_cut [26] (fun v26 wc => ∃ (kq : Nat) (x26_3 : Bool), v26 = .bool x26_3 ∧ Aside0 (wimpleref1_Num.j0 kq a0 a1 a2 x26_3 = some (r1, r2, r3)) ∧ Aside0 (kq ≤ k) ∧ Drawn0 w wc)
  case first =>
    have H := HC4.out
    clear HC4
    by_cases c5 : a1 < 0
    · rw [if_pos c5] at H
      have c5b0 : decide (a1 < 0) = true := decide_eq_true c5
      clear c5
      (first | rw [c5b0] | (simp only [i64_w, i32_w]; rw [c5b0]) | skip)
      have H' := Aside0.mk H
      clear H
      go_wp2
      go_meet
      case rel => exact ⟨_, (true), (by first | rfl | (simp; done) | (simp [*]; done)), H', ⟨by first | omega | exact Nat.le_refl _⟩, by repeat (first | exact Drawn0.refl _ | apply Drawn0.step)⟩
    · rw [if_neg c5] at H
      have c5b0 : decide (a1 < 0) = false := decide_eq_false c5
      clear c5
      (first | rw [c5b0] | (simp only [i64_w, i32_w]; rw [c5b0]) | skip)
      by_cases c6 : a1 > (a0.size : Int)
      · rw [if_pos c6] at H
        have c6b0 : decide ((a0.size : Int) < a1) = true := decide_eq_true c6
        clear c6
        have H' := Aside0.mk H
        clear H
        go_wp2
        go_meet
        case rel => exact ⟨_, (true), (by first | rfl | (simp; done) | (simp [*]; done)), H', ⟨by first | omega | exact Nat.le_refl _⟩, by repeat (first | exact Drawn0.refl _ | apply Drawn0.step)⟩
      · rw [if_neg c6] at H
        have c6b0 : decide ((a0.size : Int) < a1) = false := decide_eq_false c6
        clear c6
        have H' := Aside0.mk H
        clear H
        go_wp2
        go_meet
        case rel => exact ⟨_, (decide (a2 > (wrap64 ((a0.size : Int) - a1)))), (by first | rfl | (simp; done) | (simp [*]; done)), H', ⟨by first | omega | exact Nat.le_refl _⟩, by repeat (first | exact Drawn0.refl _ | apply Drawn0.step)⟩
  case rest =>
    clear HC4
    try clear p2
    try clear c5
    try clear c5b0
    try clear c6
    try clear c6b0
    try clear p6
    obtain ⟨kq, x26_3, rfl, HA, HJ3, ⟨mc3, rfl⟩⟩ := hcut
    cases kq with
    | zero => exact absurd HA.out (by simp [wimpleref1_Num.j0])
    | succ kj3 =>
      have H := HA.out
      clear HA
      simp only [wimpleref1_Num.j0] at H
      by_cases c7 : x26_3 = true
      · subst c7
        have H1 : (some (0, 0, 300)) = some (r1, r2, r3) := by rw [if_pos rfl] at H; exact H
        clear H
        have H := H1
        clear H1
        simp only [Option.some.injEq, Prod.mk.injEq] at H
        obtain ⟨rfl, rfl, rfl⟩ := H
        go_wp2
        go_ret3
        exact ⟨by first | rfl | (simp; done) | (simp [*]; done), by repeat (first | exact Drawn0.refl _ | apply Drawn0.step)⟩
      · replace c7 := Bool.eq_false_iff.mpr c7
        subst c7
        have H1 : (wimpleref1_Num.l0 kj3 a0 a1 a2 0 0) = some (r1, r2, r3) := by rw [if_neg (show ¬ (false = true) by decide)] at H; exact H
        clear H
        have H := H1
        clear H1
        have H' := Aside0.mk H
        clear H
        go_wp2
        go_loopg [9, 10] kj3 (fun kq v9 v10 w' => ∃ (x9_2 : Int) (x10_2 : Int), v9 = .int .i64 x9_2 ∧ v10 = .int .i64 x10_2 ∧ Aside0 (wimpleref1_Num.l0 kq a0 a1 a2 x9_2 x10_2 = some (r1, r2, r3)) ∧ Aside0 (kq ≤ kj3) ∧ Drawn0 w w')
        case atStart => exact ⟨(0), (0), (by first | rfl | (simp; done) | (simp [*]; done)), (by first | rfl | (simp; done) | (simp [*]; done)), H', ⟨Nat.le_refl _⟩, by repeat (first | exact Drawn0.refl _ | apply Drawn0.step)⟩
        case round =>
          clear H'
          try clear p2
          try clear c3
          try clear c5
          try clear c5b0
          try clear c6
          try clear c6b0
          try clear p6
          try clear c7
          try clear p2
          try clear p6
          obtain ⟨x9_2, x10_2, rfl, rfl, HA, HK2, ⟨m2, rfl⟩⟩ := hrel
          cases gk with
          | zero => exact absurd HA.out (by simp [wimpleref1_Num.l0])
          | succ k2 =>
            have H := HA.out
            clear HA
            simp only [wimpleref1_Num.l0] at H
            by_cases c8 : x10_2 < a2
            · rw [if_pos c8] at H
              have c8b0 : decide (x10_2 < a2) = true := decide_eq_true c8
              clear c8
              obtain ⟨ji9, hji9⟩ : ∃ j_ : Int, (wrap64 (a1 + x10_2)) = j_ := ⟨_, rfl⟩
              replace H : (if 0 ≤ (ji9) then (if (ji9) < (a0.size : Int) then (wimpleref1_Num.l0 k2 a0 a1 a2 (Go.bits .or .i64 (wrap64 (x9_2 * 256)) (wrap64 (bt a0 (ji9)))) (wrap64 (x10_2 + 1))) else (none)) else (none)) = some (r1, r2, r3) := by first | (rw [hji9] at H; exact H) | (simp only [hji9] at H ⊢; exact H)
              have hji9w : (IntKind.i64.wrap (a1 + x10_2)) = ji9 := (i64_w _).trans hji9
              by_cases c10 : 0 ≤ (ji9)
              · rw [if_pos c10] at H
                have c10b0 : decide (0 ≤ (ji9)) = true := decide_eq_true c10
                clear c10
                by_cases c11 : (ji9) < (a0.size : Int)
                · rw [if_pos c11] at H
                  have c11b0 : decide ((ji9) < (a0.size : Int)) = true := decide_eq_true c11
                  clear c11
                  have H' := Aside0.mk H
                  clear H
                  have p12 : 0 ≤ ((ji9) : Int) := of_decide_eq_true (by first | (with_reducible assumption) | assumption)
                  have q12 : (ji9) < (a0.size : Int) := of_decide_eq_true (by first | (with_reducible assumption) | assumption)
                  have hx12 := bt_at a0 (ji9)
                  replace p12 := eq_true p12
                  replace q12 := eq_true q12
                  go_wp2
                  go_roundg k2
                  case measure => have := HJ3.out; have := HK2.out; omega
                  case rel => exact ⟨(Go.bits .or .i64 (wrap64 (x9_2 * 256)) (wrap64 (bt a0 (ji9)))), (wrap64 (x10_2 + 1)), (by first | rfl | (simp; done) | (simp only [← hji9] <;> (first | rfl | simp)) | (simp [*]; done)), (by first | rfl | (simp; done) | (simp [*]; done)), H', ⟨by have := HJ3.out; have := HK2.out; omega⟩, by repeat (first | exact Drawn0.refl _ | apply Drawn0.step)⟩
                · rw [if_neg c11] at H
                  exact absurd H (by simp)
              · rw [if_neg c10] at H
                exact absurd H (by simp)
            · rw [if_neg c8] at H
              have c8b0 : decide (x10_2 < a2) = false := decide_eq_false c8
              clear c8
              simp only [Option.some.injEq, Prod.mk.injEq] at H
              obtain ⟨rfl, rfl, rfl⟩ := H
              go_wp2
              go_ret3
              exact ⟨by first | rfl | (simp; done) | (simp [*]; done), by repeat (first | exact Drawn0.refl _ | apply Drawn0.step)⟩

end Go.Proofs.Ytjklgdpffmaamaa.PRf

namespace Go.Proofs.Ytjklgdpffmaamaa.PRf
open Go.RowKit Go.Proofs.YtjklgdpffmaamaaW.PrintWords Go.Proofs.YtjklgdpffmaamaaW.PrintLast Go.Proofs.YtjklgdpffmaamaaW.PrintMore
attribute [local go_sem] max2_int min2_int max_two min_two max_three min_three max_four min_four   -- for this text's walks alone
set_option linter.unusedVariables false
set_option linter.unusedSimpArgs false

/-! ### wimpleref4_Name: function 79 -/
mutual
def wimpleref4_Name.l0 : Nat → ByteArray → Int → ByteArray → Int → Int → Option (ByteArray × Int × Int)
  | 0, _, _, _, _, _ => none
  | k + 1, x0, x1, x7, x8, x9 => if x1 < (x0.size : Int) then (wimpleref4_Name.j1 k x0 x1 x7 x8 x9 (decide ((x7.size : Int) ≤ 255))) else (wimpleref4_Name.j1 k x0 x1 x7 x8 x9 false)
def wimpleref4_Name.j1 : Nat → ByteArray → Int → ByteArray → Int → Int → Bool → Option (ByteArray × Int × Int)
  | 0, _, _, _, _, _, _ => none
  | k + 1, x0, x1, x7, x8, x9, x25 => if x25 = true then (if 0 ≤ x1 then (if x1 < (x0.size : Int) then (if (wrap64 (bt x0 x1)) = 0 then (if x9 < 0 then (if x7.size + 1 ≤ 9223372036854775807 then ((wimpleref1_May.f (x7 ++ (⟨#[0]⟩ : ByteArray))).bind fun t104 => (if t104 = true then (some (x7 ++ (⟨#[0]⟩ : ByteArray), wrap64 (x1 + 1), 0)) else (some ((⟨#[]⟩ : ByteArray), 0, 500)))) else (none)) else (if x7.size + 1 ≤ 9223372036854775807 then ((wimpleref1_May.f (x7 ++ (⟨#[0]⟩ : ByteArray))).bind fun t105 => (if t105 = true then (some (x7 ++ (⟨#[0]⟩ : ByteArray), x9, 0)) else (some ((⟨#[]⟩ : ByteArray), 0, 500)))) else (none))) else (if (wrap64 (bt x0 x1)) > 191 then ((wimpleref1_Num.f k x0 x1 2).bind fun bt106 => (if bt106.2.2 = 0 then (wimpleref4_Name.j2 k x0 x7 x9 bt106.1 bt106.2.1 (decide ((Go.bits .and .i64 bt106.1 16383) ≥ x8))) else (wimpleref4_Name.j2 k x0 x7 x9 bt106.1 bt106.2.1 true))) else (if (wrap64 (bt x0 x1)) > 63 then (some ((⟨#[]⟩ : ByteArray), 0, 500)) else (if (wrap64 (bt x0 x1)) > (wrap64 ((wrap64 ((x0.size : Int) - x1)) - 1)) then (some ((⟨#[]⟩ : ByteArray), 0, 500)) else (if x1 ≤ (wrap64 ((wrap64 (x1 + 1)) + (wrap64 (bt x0 x1)))) then (if (wrap64 ((wrap64 (x1 + 1)) + (wrap64 (bt x0 x1)))) ≤ (x0.size : Int) then (if x7.size + (x0.extract (x1 : Int).toNat ((wrap64 ((wrap64 (x1 + 1)) + (wrap64 (bt x0 x1)))) : Int).toNat).size ≤ 9223372036854775807 then (wimpleref4_Name.l0 k x0 (wrap64 ((wrap64 (x1 + 1)) + (wrap64 (bt x0 x1)))) (x7 ++ (x0.extract (x1 : Int).toNat ((wrap64 ((wrap64 (x1 + 1)) + (wrap64 (bt x0 x1)))) : Int).toNat)) x8 x9) else (none)) else (none)) else (none)))))) else (none)) else (none)) else (some ((⟨#[]⟩ : ByteArray), 0, 500))
def wimpleref4_Name.j2 : Nat → ByteArray → ByteArray → Int → Int → Int → Bool → Option (ByteArray × Int × Int)
  | 0, _, _, _, _, _, _ => none
  | k + 1, x0, x7, x9, x11, x12, x74 => if x74 = true then (some ((⟨#[]⟩ : ByteArray), 0, 500)) else (if x9 < 0 then (wimpleref4_Name.l0 k x0 (Go.bits .and .i64 x11 16383) x7 (Go.bits .and .i64 x11 16383) x12) else (wimpleref4_Name.l0 k x0 (Go.bits .and .i64 x11 16383) x7 (Go.bits .and .i64 x11 16383) x9))
end
def wimpleref4_Name.f (k : Nat) (a0 : ByteArray) (a1 : Int) : Option (ByteArray × Int × Int) := if a1 < 0 then (some ((⟨#[]⟩ : ByteArray), 0, 500)) else (wimpleref4_Name.l0 k a0 a1 (⟨#[]⟩ : ByteArray) a1 (-1))
theorem wimpleref4_Name.mono_l : ∀ k, (∀ y0 y1 y2 y3 y4, LeO (wimpleref4_Name.l0 k y0 y1 y2 y3 y4) (wimpleref4_Name.l0 (k + 1) y0 y1 y2 y3 y4)) ∧ (∀ y0 y1 y2 y3 y4 y5, LeO (wimpleref4_Name.j1 k y0 y1 y2 y3 y4 y5) (wimpleref4_Name.j1 (k + 1) y0 y1 y2 y3 y4 y5)) ∧ (∀ y0 y1 y2 y3 y4 y5, LeO (wimpleref4_Name.j2 k y0 y1 y2 y3 y4 y5) (wimpleref4_Name.j2 (k + 1) y0 y1 y2 y3 y4 y5))
  | 0 => ⟨fun _ _ _ _ _ r h => by simp [wimpleref4_Name.l0] at h, fun _ _ _ _ _ _ r h => by simp [wimpleref4_Name.j1] at h, fun _ _ _ _ _ _ r h => by simp [wimpleref4_Name.j2] at h⟩
  | k + 1 => by
    obtain ⟨ih0, ih1, ih2⟩ := wimpleref4_Name.mono_l k
    refine ⟨?_, ?_, ?_⟩
    · intro y0 y1 y2 y3 y4
      unfold wimpleref4_Name.l0
      repeat' first
      | (with_reducible exact ih0 _ _ _ _ _)
      | (with_reducible exact ih1 _ _ _ _ _ _)
      | (with_reducible exact ih2 _ _ _ _ _ _)
      | (with_reducible exact wimpleref1_Num.mono _ _ _ _)
      | (with_reducible exact LeO.refl _)
      | (with_reducible exact LeO.none _)
      | (with_reducible refine LeO.ite ?_ ?_)
      | (with_reducible refine LeO.bind ?_ (fun _ => ?_))
      | exact ih0 _ _ _ _ _
      | exact ih1 _ _ _ _ _ _
      | exact ih2 _ _ _ _ _ _
      | exact wimpleref1_Num.mono _ _ _ _
      | exact LeO.none _
      | refine LeO.ite ?_ ?_
      | refine LeO.bind ?_ (fun _ => ?_)
    · intro y0 y1 y2 y3 y4 y5
      unfold wimpleref4_Name.j1
      repeat' first
      | (with_reducible exact ih0 _ _ _ _ _)
      | (with_reducible exact ih1 _ _ _ _ _ _)
      | (with_reducible exact ih2 _ _ _ _ _ _)
      | (with_reducible exact wimpleref1_Num.mono _ _ _ _)
      | (with_reducible exact LeO.refl _)
      | (with_reducible exact LeO.none _)
      | (with_reducible refine LeO.ite ?_ ?_)
      | (with_reducible refine LeO.bind ?_ (fun _ => ?_))
      | exact ih0 _ _ _ _ _
      | exact ih1 _ _ _ _ _ _
      | exact ih2 _ _ _ _ _ _
      | exact wimpleref1_Num.mono _ _ _ _
      | exact LeO.none _
      | refine LeO.ite ?_ ?_
      | refine LeO.bind ?_ (fun _ => ?_)
    · intro y0 y1 y2 y3 y4 y5
      unfold wimpleref4_Name.j2
      repeat' first
      | (with_reducible exact ih0 _ _ _ _ _)
      | (with_reducible exact ih1 _ _ _ _ _ _)
      | (with_reducible exact ih2 _ _ _ _ _ _)
      | (with_reducible exact wimpleref1_Num.mono _ _ _ _)
      | (with_reducible exact LeO.refl _)
      | (with_reducible exact LeO.none _)
      | (with_reducible refine LeO.ite ?_ ?_)
      | (with_reducible refine LeO.bind ?_ (fun _ => ?_))
      | exact ih0 _ _ _ _ _
      | exact ih1 _ _ _ _ _ _
      | exact ih2 _ _ _ _ _ _
      | exact wimpleref1_Num.mono _ _ _ _
      | exact LeO.none _
      | refine LeO.ite ?_ ?_
      | refine LeO.bind ?_ (fun _ => ?_)
theorem wimpleref4_Name.mono : ∀ a0 a1 k, LeO (wimpleref4_Name.f k a0 a1) (wimpleref4_Name.f (k + 1) a0 a1) := by
  intro a0 a1 k
  obtain ⟨ih0, ih1, ih2⟩ := wimpleref4_Name.mono_l k
  unfold wimpleref4_Name.f
  repeat' first
      | (with_reducible exact ih0 _ _ _ _ _)
      | (with_reducible exact ih1 _ _ _ _ _ _)
      | (with_reducible exact ih2 _ _ _ _ _ _)
      | (with_reducible exact wimpleref1_Num.mono _ _ _ _)
      | (with_reducible exact LeO.refl _)
      | (with_reducible exact LeO.none _)
      | (with_reducible refine LeO.ite ?_ ?_)
      | (with_reducible refine LeO.bind ?_ (fun _ => ?_))
      | exact ih0 _ _ _ _ _
      | exact ih1 _ _ _ _ _ _
      | exact ih2 _ _ _ _ _ _
      | exact wimpleref1_Num.mono _ _ _ _
      | exact LeO.none _
      | refine LeO.ite ?_ ?_
      | refine LeO.bind ?_ (fun _ => ?_)
set_option maxHeartbeats 8000000 in
set_option maxRecDepth 100000 in
theorem wimpleref4_Name.calls (k : Nat) (a0 : ByteArray) (a1 : Int) (r1 : ByteArray) (r2 : Int) (r3 : Int) (w : World) (h : wimpleref4_Name.f k a0 a1 = some (r1, r2, r3)) :
    Calls Try.prog 79 #[.string a0, .int .i64 a1] w fun e w' => e = .returned (.tuple #[.string r1, .int .i64 r2, .int .i64 r3]) ∧ Below w.heap.size w w' := by
  have HB := Aside0.mk (Below.refl w.heap.size w)
  have H : (if a1 < 0 then (some ((⟨#[]⟩ : ByteArray), 0, 500)) else (wimpleref4_Name.l0 k a0 a1 (⟨#[]⟩ : ByteArray) a1 (-1))) = some (r1, r2, r3) := h
  clear h
  by_cases c3 : a1 < 0
  · rw [if_pos c3] at H
    have c3b0 : decide (a1 < 0) = true := decide_eq_true c3
    clear c3
    simp only [Option.some.injEq, Prod.mk.injEq] at H
    obtain ⟨rfl, rfl, rfl⟩ := H
    go_enter Try.func79, Try.ntmps79
    go_wp2
    go_ret3
    exact ⟨by first | rfl | (simp [errW_none, errW_some] <;> rfl) | (simp [*, errW_none, errW_some] <;> rfl), by repeat (first | (with_reducible first | exact HB.out | apply below_alloc | apply pw_below_drewN | apply below_drew1) | exact HB.out)⟩
  · rw [if_neg c3] at H
    have c3b0 : decide (a1 < 0) = false := decide_eq_false c3
    clear c3
    have H' := Aside0.mk H
    clear H
    go_enter Try.func79, Try.ntmps79
    go_wp2
    go_loopg [1, 7, 8, 9] k (fun kq v1 v7 v8 v9 w' => ∃ (x1_1 : Int) (x7_1 : ByteArray) (x8_1 : Int) (x9_1 : Int), v1 = .int .i64 x1_1 ∧ v7 = .string x7_1 ∧ v8 = .int .i64 x8_1 ∧ v9 = .int .i64 x9_1 ∧ Aside0 (wimpleref4_Name.l0 kq a0 x1_1 x7_1 x8_1 x9_1 = some (r1, r2, r3)) ∧ Aside0 (kq ≤ k) ∧ Aside0 (Below w.heap.size w w'))
    case atStart => exact ⟨(a1), ((⟨#[]⟩ : ByteArray)), (a1), ((-1)), (by first | rfl | (simp; done) | (simp [*]; done)), (by first | rfl | (simp; done) | (simp [*]; done)), (by first | rfl | (simp; done) | (simp [*]; done)), (by first | rfl | (simp; done) | (simp [*]; done)), H', ⟨Nat.le_refl _⟩, ⟨by repeat (first | (with_reducible first | exact HB.out | apply below_alloc | apply pw_below_drewN | apply below_drew1) | exact HB.out)⟩⟩
    case round =>
      clear H'
      try clear p2
      try clear c3
      try clear c3b0
      obtain ⟨x1_1, x7_1, x8_1, x9_1, rfl, rfl, rfl, rfl, HA, HK1, HB⟩ := hrel
      cases gk with
      | zero => exact absurd HA.out (by simp [wimpleref4_Name.l0])
      | succ k1 =>
        have H := HA.out
        clear HA
        simp only [wimpleref4_Name.l0] at H
        have HC4 := Aside0.mk H
        clear H
        go_upto_region 5 with (fail)
        go_cut [25] (fun v25 wc => ∃ (kq : Nat) (x25_3 : Bool), v25 = .bool x25_3 ∧ Aside0 (wimpleref4_Name.j1 kq a0 x1_1 x7_1 x8_1 x9_1 x25_3 = some (r1, r2, r3)) ∧ Aside0 (kq ≤ k1) ∧ Aside0 (Below w.heap.size w wc))
        case first =>
          have H := HC4.out
          clear HC4
          by_cases c5 : x1_1 < (a0.size : Int)
          · rw [if_pos c5] at H
            have c5b0 : decide (x1_1 < (a0.size : Int)) = true := decide_eq_true c5
            clear c5
            (first | rw [c5b0] | (simp only [i64_w, i32_w]; rw [c5b0]) | skip)
            have H' := Aside0.mk H
            clear H
            go_wp2
            go_meet
            case rel => exact ⟨_, (decide ((x7_1.size : Int) ≤ 255)), (by first | rfl | (simp; done) | (simp [*]; done)), H', ⟨by have := HK1.out; first | omega | exact Nat.le_refl _⟩, ⟨by repeat (first | (with_reducible first | exact HB.out | apply below_alloc | apply pw_below_drewN | apply below_drew1) | exact HB.out)⟩⟩
          · rw [if_neg c5] at H
            have c5b0 : decide (x1_1 < (a0.size : Int)) = false := decide_eq_false c5
            clear c5
            (first | rw [c5b0] | (simp only [i64_w, i32_w]; rw [c5b0]) | skip)
            have H' := Aside0.mk H
            clear H
            go_wp2
            go_meet
            case rel => exact ⟨_, (false), (by first | rfl | (simp; done) | (simp [*]; done)), H', ⟨by have := HK1.out; first | omega | exact Nat.le_refl _⟩, ⟨by repeat (first | (with_reducible first | exact HB.out | apply below_alloc | apply pw_below_drewN | apply below_drew1) | exact HB.out)⟩⟩
        case rest =>
          clear HC4
          try clear p2
          try clear c3
          try clear c3b0
          try clear c5
          try clear c5b0
          try clear p2
          obtain ⟨kq, x25_3, rfl, HA, HJ3, HB⟩ := hcut
          cases kq with
          | zero => exact absurd HA.out (by simp [wimpleref4_Name.j1])
          | succ kj3 =>
            have H := HA.out
            clear HA
            simp only [wimpleref4_Name.j1] at H
            by_cases c6 : x25_3 = true
            · subst c6
              have H1 : (if 0 ≤ x1_1 then (if x1_1 < (a0.size : Int) then (if (wrap64 (bt a0 x1_1)) = 0 then (if x9_1 < 0 then (if x7_1.size + 1 ≤ 9223372036854775807 then ((wimpleref1_May.f (x7_1 ++ (⟨#[0]⟩ : ByteArray))).bind fun t104 => (if t104 = true then (some (x7_1 ++ (⟨#[0]⟩ : ByteArray), wrap64 (x1_1 + 1), 0)) else (some ((⟨#[]⟩ : ByteArray), 0, 500)))) else (none)) else (if x7_1.size + 1 ≤ 9223372036854775807 then ((wimpleref1_May.f (x7_1 ++ (⟨#[0]⟩ : ByteArray))).bind fun t105 => (if t105 = true then (some (x7_1 ++ (⟨#[0]⟩ : ByteArray), x9_1, 0)) else (some ((⟨#[]⟩ : ByteArray), 0, 500)))) else (none))) else (if (wrap64 (bt a0 x1_1)) > 191 then ((wimpleref1_Num.f kj3 a0 x1_1 2).bind fun bt106 => (if bt106.2.2 = 0 then (wimpleref4_Name.j2 kj3 a0 x7_1 x9_1 bt106.1 bt106.2.1 (decide ((Go.bits .and .i64 bt106.1 16383) ≥ x8_1))) else (wimpleref4_Name.j2 kj3 a0 x7_1 x9_1 bt106.1 bt106.2.1 true))) else (if (wrap64 (bt a0 x1_1)) > 63 then (some ((⟨#[]⟩ : ByteArray), 0, 500)) else (if (wrap64 (bt a0 x1_1)) > (wrap64 ((wrap64 ((a0.size : Int) - x1_1)) - 1)) then (some ((⟨#[]⟩ : ByteArray), 0, 500)) else (if x1_1 ≤ (wrap64 ((wrap64 (x1_1 + 1)) + (wrap64 (bt a0 x1_1)))) then (if (wrap64 ((wrap64 (x1_1 + 1)) + (wrap64 (bt a0 x1_1)))) ≤ (a0.size : Int) then (if x7_1.size + (a0.extract (x1_1 : Int).toNat ((wrap64 ((wrap64 (x1_1 + 1)) + (wrap64 (bt a0 x1_1)))) : Int).toNat).size ≤ 9223372036854775807 then (wimpleref4_Name.l0 kj3 a0 (wrap64 ((wrap64 (x1_1 + 1)) + (wrap64 (bt a0 x1_1)))) (x7_1 ++ (a0.extract (x1_1 : Int).toNat ((wrap64 ((wrap64 (x1_1 + 1)) + (wrap64 (bt a0 x1_1)))) : Int).toNat)) x8_1 x9_1) else (none)) else (none)) else (none)))))) else (none)) else (none)) = some (r1, r2, r3) := by rw [if_pos rfl] at H; exact H
              clear H
              have H := H1
              clear H1
              by_cases c7 : 0 ≤ x1_1
              · rw [if_pos c7] at H
                have c7b0 : decide (0 ≤ x1_1) = true := decide_eq_true c7
                clear c7
                by_cases c8 : x1_1 < (a0.size : Int)
                · rw [if_pos c8] at H
                  have c8b0 : decide (x1_1 < (a0.size : Int)) = true := decide_eq_true c8
                  clear c8
                  by_cases c10 : (wrap64 (bt a0 x1_1)) = 0
                  · rw [if_pos c10] at H
                    have c10b0 : ((wrap64 (bt a0 x1_1)) == 0) = true := beq_iff_eq.mpr c10
                    have c10b1 : ((wrap64 (bt a0 x1_1)) != 0) = false := bne_eq_false_iff_eq.mpr c10
                    clear c10
                    by_cases c11 : x9_1 < 0
                    · rw [if_pos c11] at H
                      have c11b0 : decide (x9_1 < 0) = true := decide_eq_true c11
                      clear c11
                      by_cases c12 : x7_1.size + 1 ≤ 9223372036854775807
                      · rw [if_pos c12] at H
                        have c12b0 := eq_true c12
                        have c12b1 : decide (x7_1.size + 1 ≤ 9223372036854775807) = true := decide_eq_true c12
                        try have c12b2 : (9223372036854775807 < x7_1.size + 1) = False := eq_false (Nat.not_lt.2 c12)
                        replace H := Option.bind_eq_some_iff.mp H
                        obtain ⟨t104, A130, H⟩ := H
                        replace H : (if t104 = true then (some (x7_1 ++ (⟨#[0]⟩ : ByteArray), wrap64 (x1_1 + 1), 0)) else (some ((⟨#[]⟩ : ByteArray), 0, 500))) = some (r1, r2, r3) := H
                        have A13 := Aside0.mk A130
                        clear A130
                        by_cases c14 : t104 = true
                        · subst c14
                          have H1 : (some (x7_1 ++ (⟨#[0]⟩ : ByteArray), wrap64 (x1_1 + 1), 0)) = some (r1, r2, r3) := by rw [if_pos rfl] at H; exact H
                          clear H
                          have H := H1
                          clear H1
                          simp only [Option.some.injEq, Prod.mk.injEq] at H
                          obtain ⟨rfl, rfl, rfl⟩ := H
                          have p9 : 0 ≤ (x1_1 : Int) := of_decide_eq_true (by first | (with_reducible assumption) | assumption)
                          have q9 : x1_1 < (a0.size : Int) := of_decide_eq_true (by first | (with_reducible assumption) | assumption)
                          have hx9 := bt_at a0 x1_1
                          replace p9 := eq_true p9
                          replace q9 := eq_true q9
                          go_wp2_with (first | ((with_reducible refine gate_dst (N := 53) rfl ?_); (try (refine gate_guard (by rfl) ?_; dsimp only)); (with_reducible refine gate_callee (f := 32) rfl ?_); refine goesL_ (some 53) rfl rfl Try.func32 (by kernel_rfl) rfl #[.string (x7_1 ++ (⟨#[0]⟩ : ByteArray))] rfl (by (try simp only [List.map_toArray, List.map_cons, List.map_nil]); first | done | rfl | (simp only [List.length_drop, List.length_take]; rfl)) ?_; (with_reducible refine (wimpleref1_May.calls (x7_1 ++ (⟨#[0]⟩ : ByteArray)) true _ A13.out).mono ?_); rintro e w15 ⟨rfl, hb⟩; refine ⟨_, rfl, ?_⟩; have n0_ := Aside0.mk (below_step (by repeat (first | (with_reducible first | exact HB.out | apply below_alloc | apply pw_below_drewN | apply below_drew1) | exact HB.out)) hb); clear HB; have HB := n0_; clear n0_; (try clear hb); (try clear hb2); (try clear hk); (try clear hi)))
                          go_ret3
                          exact ⟨by first | rfl | (simp [errW_none, errW_some] <;> rfl) | (simp [*, errW_none, errW_some] <;> rfl), by repeat (first | (with_reducible first | exact HB.out | apply below_alloc | apply pw_below_drewN | apply below_drew1) | exact HB.out)⟩
                        · replace c14 := Bool.eq_false_iff.mpr c14
                          subst c14
                          have H1 : (some ((⟨#[]⟩ : ByteArray), 0, 500)) = some (r1, r2, r3) := by rw [if_neg (show ¬ (false = true) by decide)] at H; exact H
                          clear H
                          have H := H1
                          clear H1
                          simp only [Option.some.injEq, Prod.mk.injEq] at H
                          obtain ⟨rfl, rfl, rfl⟩ := H
                          have p9 : 0 ≤ (x1_1 : Int) := of_decide_eq_true (by first | (with_reducible assumption) | assumption)
                          have q9 : x1_1 < (a0.size : Int) := of_decide_eq_true (by first | (with_reducible assumption) | assumption)
                          have hx9 := bt_at a0 x1_1
                          replace p9 := eq_true p9
                          replace q9 := eq_true q9
                          go_wp2_with (first | ((with_reducible refine gate_dst (N := 53) rfl ?_); (try (refine gate_guard (by rfl) ?_; dsimp only)); (with_reducible refine gate_callee (f := 32) rfl ?_); refine goesL_ (some 53) rfl rfl Try.func32 (by kernel_rfl) rfl #[.string (x7_1 ++ (⟨#[0]⟩ : ByteArray))] rfl (by (try simp only [List.map_toArray, List.map_cons, List.map_nil]); first | done | rfl | (simp only [List.length_drop, List.length_take]; rfl)) ?_; (with_reducible refine (wimpleref1_May.calls (x7_1 ++ (⟨#[0]⟩ : ByteArray)) false _ A13.out).mono ?_); rintro e w16 ⟨rfl, hb⟩; refine ⟨_, rfl, ?_⟩; have n0_ := Aside0.mk (below_step (by repeat (first | (with_reducible first | exact HB.out | apply below_alloc | apply pw_below_drewN | apply below_drew1) | exact HB.out)) hb); clear HB; have HB := n0_; clear n0_; (try clear hb); (try clear hb2); (try clear hk); (try clear hi)))
                          go_ret3
                          exact ⟨by first | rfl | (simp [errW_none, errW_some] <;> rfl) | (simp [*, errW_none, errW_some] <;> rfl), by repeat (first | (with_reducible first | exact HB.out | apply below_alloc | apply pw_below_drewN | apply below_drew1) | exact HB.out)⟩
                      · rw [if_neg c12] at H
                        exact absurd H (by simp)
                    · rw [if_neg c11] at H
                      have c11b0 : decide (x9_1 < 0) = false := decide_eq_false c11
                      clear c11
                      by_cases c17 : x7_1.size + 1 ≤ 9223372036854775807
                      · rw [if_pos c17] at H
                        have c17b0 := eq_true c17
                        have c17b1 : decide (x7_1.size + 1 ≤ 9223372036854775807) = true := decide_eq_true c17
                        try have c17b2 : (9223372036854775807 < x7_1.size + 1) = False := eq_false (Nat.not_lt.2 c17)
                        replace H := Option.bind_eq_some_iff.mp H
                        obtain ⟨t105, A180, H⟩ := H
                        replace H : (if t105 = true then (some (x7_1 ++ (⟨#[0]⟩ : ByteArray), x9_1, 0)) else (some ((⟨#[]⟩ : ByteArray), 0, 500))) = some (r1, r2, r3) := H
                        have A18 := Aside0.mk A180
                        clear A180
                        by_cases c19 : t105 = true
                        · subst c19
                          have H1 : (some (x7_1 ++ (⟨#[0]⟩ : ByteArray), x9_1, 0)) = some (r1, r2, r3) := by rw [if_pos rfl] at H; exact H
                          clear H
                          have H := H1
                          clear H1
                          simp only [Option.some.injEq, Prod.mk.injEq] at H
                          obtain ⟨rfl, rfl, rfl⟩ := H
                          have p9 : 0 ≤ (x1_1 : Int) := of_decide_eq_true (by first | (with_reducible assumption) | assumption)
                          have q9 : x1_1 < (a0.size : Int) := of_decide_eq_true (by first | (with_reducible assumption) | assumption)
                          have hx9 := bt_at a0 x1_1
                          replace p9 := eq_true p9
                          replace q9 := eq_true q9
                          go_wp2_with (first | ((with_reducible refine gate_dst (N := 53) rfl ?_); (try (refine gate_guard (by rfl) ?_; dsimp only)); (with_reducible refine gate_callee (f := 32) rfl ?_); refine goesL_ (some 53) rfl rfl Try.func32 (by kernel_rfl) rfl #[.string (x7_1 ++ (⟨#[0]⟩ : ByteArray))] rfl (by (try simp only [List.map_toArray, List.map_cons, List.map_nil]); first | done | rfl | (simp only [List.length_drop, List.length_take]; rfl)) ?_; (with_reducible refine (wimpleref1_May.calls (x7_1 ++ (⟨#[0]⟩ : ByteArray)) true _ A18.out).mono ?_); rintro e w20 ⟨rfl, hb⟩; refine ⟨_, rfl, ?_⟩; have n0_ := Aside0.mk (below_step (by repeat (first | (with_reducible first | exact HB.out | apply below_alloc | apply pw_below_drewN | apply below_drew1) | exact HB.out)) hb); clear HB; have HB := n0_; clear n0_; (try clear hb); (try clear hb2); (try clear hk); (try clear hi)))
                          go_ret3
                          exact ⟨by first | rfl | (simp [errW_none, errW_some] <;> rfl) | (simp [*, errW_none, errW_some] <;> rfl), by repeat (first | (with_reducible first | exact HB.out | apply below_alloc | apply pw_below_drewN | apply below_drew1) | exact HB.out)⟩
                        · replace c19 := Bool.eq_false_iff.mpr c19
                          subst c19
                          have H1 : (some ((⟨#[]⟩ : ByteArray), 0, 500)) = some (r1, r2, r3) := by rw [if_neg (show ¬ (false = true) by decide)] at H; exact H
                          clear H
                          have H := H1
                          clear H1
                          simp only [Option.some.injEq, Prod.mk.injEq] at H
                          obtain ⟨rfl, rfl, rfl⟩ := H
                          have p9 : 0 ≤ (x1_1 : Int) := of_decide_eq_true (by first | (with_reducible assumption) | assumption)
                          have q9 : x1_1 < (a0.size : Int) := of_decide_eq_true (by first | (with_reducible assumption) | assumption)
                          have hx9 := bt_at a0 x1_1
                          replace p9 := eq_true p9
                          replace q9 := eq_true q9
                          go_wp2_with (first | ((with_reducible refine gate_dst (N := 53) rfl ?_); (try (refine gate_guard (by rfl) ?_; dsimp only)); (with_reducible refine gate_callee (f := 32) rfl ?_); refine goesL_ (some 53) rfl rfl Try.func32 (by kernel_rfl) rfl #[.string (x7_1 ++ (⟨#[0]⟩ : ByteArray))] rfl (by (try simp only [List.map_toArray, List.map_cons, List.map_nil]); first | done | rfl | (simp only [List.length_drop, List.length_take]; rfl)) ?_; (with_reducible refine (wimpleref1_May.calls (x7_1 ++ (⟨#[0]⟩ : ByteArray)) false _ A18.out).mono ?_); rintro e w21 ⟨rfl, hb⟩; refine ⟨_, rfl, ?_⟩; have n0_ := Aside0.mk (below_step (by repeat (first | (with_reducible first | exact HB.out | apply below_alloc | apply pw_below_drewN | apply below_drew1) | exact HB.out)) hb); clear HB; have HB := n0_; clear n0_; (try clear hb); (try clear hb2); (try clear hk); (try clear hi)))
                          go_ret3
                          exact ⟨by first | rfl | (simp [errW_none, errW_some] <;> rfl) | (simp [*, errW_none, errW_some] <;> rfl), by repeat (first | (with_reducible first | exact HB.out | apply below_alloc | apply pw_below_drewN | apply below_drew1) | exact HB.out)⟩
                      · rw [if_neg c17] at H
                        exact absurd H (by simp)
                  · rw [if_neg c10] at H
                    have c10b0 : ((wrap64 (bt a0 x1_1)) == 0) = false := beq_eq_false_iff_ne.mpr c10
                    have c10b1 : ((wrap64 (bt a0 x1_1)) != 0) = true := bne_iff_ne.mpr c10
                    by_cases c22 : (wrap64 (bt a0 x1_1)) > 191
                    · rw [if_pos c22] at H
                      have c22b0 : decide (191 < (wrap64 (bt a0 x1_1))) = true := decide_eq_true c22
                      clear c22
                      replace H := Option.bind_eq_some_iff.mp H
                      obtain ⟨⟨t106, t107, t108⟩, A230, H⟩ := H
                      replace H : (if t108 = 0 then (wimpleref4_Name.j2 kj3 a0 x7_1 x9_1 t106 t107 (decide ((Go.bits .and .i64 t106 16383) ≥ x8_1))) else (wimpleref4_Name.j2 kj3 a0 x7_1 x9_1 t106 t107 true)) = some (r1, r2, r3) := H
                      have A23 := Aside0.mk A230
                      clear A230
                      have HC24 := Aside0.mk H
                      clear H
                      have p9 : 0 ≤ (x1_1 : Int) := of_decide_eq_true (by first | (with_reducible assumption) | assumption)
                      have q9 : x1_1 < (a0.size : Int) := of_decide_eq_true (by first | (with_reducible assumption) | assumption)
                      have hx9 := bt_at a0 x1_1
                      replace p9 := eq_true p9
                      replace q9 := eq_true q9
                      go_upto_region 18 with (first | ((with_reducible refine gate_dst (N := 63) rfl ?_); (try (refine gate_guard (by rfl) ?_; dsimp only)); (with_reducible refine gate_callee (f := 54) rfl ?_); refine goesL_ (some 63) rfl rfl Try.func54 (by kernel_rfl) rfl #[.string a0, .int .i64 x1_1, .int .i64 2] rfl (by (try simp only [List.map_toArray, List.map_cons, List.map_nil]); first | done | rfl | (simp only [List.length_drop, List.length_take]; rfl)) ?_; (with_reducible refine (wimpleref1_Num.calls kj3 a0 x1_1 2 t106 t107 t108 _ A23.out).mono ?_); rintro e w' ⟨rfl, ⟨nd, rfl⟩⟩; refine ⟨_, rfl, ?_⟩))
                      (try simp only [Act.put, List.setIfInBounds_toArray, List.set_cons_zero, List.set_cons_succ])
                      go_cut [74] (fun v74 wc => ∃ (kq : Nat) (x74_23 : Bool), v74 = .bool x74_23 ∧ Aside0 (wimpleref4_Name.j2 kq a0 x7_1 x9_1 t106 t107 x74_23 = some (r1, r2, r3)) ∧ Aside0 (kq ≤ kj3) ∧ Aside0 (Below w.heap.size w wc))
                      case first =>
                        have H := HC24.out
                        clear HC24
                        by_cases c25 : t108 = 0
                        · rw [if_pos c25] at H
                          have c25b0 : (t108 == 0) = true := beq_iff_eq.mpr c25
                          have c25b1 : (t108 != 0) = false := bne_eq_false_iff_eq.mpr c25
                          clear c25
                          (first | rw [c25b0] | (simp only [i64_w, i32_w]; rw [c25b0]) | skip)
                          have H' := Aside0.mk H
                          clear H
                          go_wp2
                          go_meet
                          case rel => exact ⟨_, (decide ((Go.bits .and .i64 t106 16383) ≥ x8_1)), (by first | rfl | (simp; done) | (simp [*]; done)), H', ⟨by have := HK1.out; have := HJ3.out; first | omega | exact Nat.le_refl _⟩, ⟨by repeat (first | (with_reducible first | exact HB.out | apply below_alloc | apply pw_below_drewN | apply below_drew1) | exact HB.out)⟩⟩
                        · rw [if_neg c25] at H
                          have c25b0 : (t108 == 0) = false := beq_eq_false_iff_ne.mpr c25
                          have c25b1 : (t108 != 0) = true := bne_iff_ne.mpr c25
                          (first | rw [c25b0] | (simp only [i64_w, i32_w]; rw [c25b0]) | skip)
                          have H' := Aside0.mk H
                          clear H
                          go_wp2
                          go_meet
                          case rel => exact ⟨_, (true), (by first | rfl | (simp; done) | (simp [*]; done)), H', ⟨by have := HK1.out; have := HJ3.out; first | omega | exact Nat.le_refl _⟩, ⟨by repeat (first | (with_reducible first | exact HB.out | apply below_alloc | apply pw_below_drewN | apply below_drew1) | exact HB.out)⟩⟩
                      case rest =>
                        clear HC24
                        try clear c1
                        try clear c2
                        try clear p2
                        try clear c3
                        try clear c3b0
                        try clear c5
                        try clear c5b0
                        try clear c6
                        try clear p6
                        try clear c7
                        try clear c7b0
                        try clear c8
                        try clear c8b0
                        try clear p9
                        try clear q9
                        try clear hx9
                        try clear c10
                        try clear c10b0
                        try clear c10b1
                        try clear c11
                        try clear c11b0
                        try clear c12
                        try clear c12b0
                        try clear c12b1
                        try clear c12b2
                        try clear c14
                        try clear c17
                        try clear c17b0
                        try clear c17b1
                        try clear c17b2
                        try clear c19
                        try clear c22
                        try clear c22b0
                        try clear c25
                        try clear c25b0
                        try clear c25b1
                        try clear p2
                        try clear p9
                        try clear q9
                        obtain ⟨kq, x74_23, rfl, HA, HJ23, HB⟩ := hcut
                        cases kq with
                        | zero => exact absurd HA.out (by simp [wimpleref4_Name.j2])
                        | succ kj23 =>
                          have H := HA.out
                          clear HA
                          simp only [wimpleref4_Name.j2] at H
                          by_cases c26 : x74_23 = true
                          · subst c26
                            have H1 : (some ((⟨#[]⟩ : ByteArray), 0, 500)) = some (r1, r2, r3) := by rw [if_pos rfl] at H; exact H
                            clear H
                            have H := H1
                            clear H1
                            simp only [Option.some.injEq, Prod.mk.injEq] at H
                            obtain ⟨rfl, rfl, rfl⟩ := H
                            go_wp2
                            go_ret3
                            exact ⟨by first | rfl | (simp [errW_none, errW_some] <;> rfl) | (simp [*, errW_none, errW_some] <;> rfl), by repeat (first | (with_reducible first | exact HB.out | apply below_alloc | apply pw_below_drewN | apply below_drew1) | exact HB.out)⟩
                          · replace c26 := Bool.eq_false_iff.mpr c26
                            subst c26
                            have H1 : (if x9_1 < 0 then (wimpleref4_Name.l0 kj23 a0 (Go.bits .and .i64 t106 16383) x7_1 (Go.bits .and .i64 t106 16383) t107) else (wimpleref4_Name.l0 kj23 a0 (Go.bits .and .i64 t106 16383) x7_1 (Go.bits .and .i64 t106 16383) x9_1)) = some (r1, r2, r3) := by rw [if_neg (show ¬ (false = true) by decide)] at H; exact H
                            clear H
                            have H := H1
                            clear H1
                            by_cases c27 : x9_1 < 0
                            · rw [if_pos c27] at H
                              have c27b0 : decide (x9_1 < 0) = true := decide_eq_true c27
                              clear c27
                              have H' := Aside0.mk H
                              clear H
                              go_wp2
                              go_roundg kj23
                              case measure => have := HK1.out; have := HJ3.out; have := HJ23.out; omega
                              case rel => exact ⟨(Go.bits .and .i64 t106 16383), (x7_1), (Go.bits .and .i64 t106 16383), (t107), (by first | rfl | (simp; done) | (simp [*]; done)), (by first | rfl | (simp; done) | (simp [*]; done)), (by first | rfl | (simp; done) | (simp [*]; done)), (by first | rfl | (simp; done) | (simp [*]; done)), H', ⟨by have := HK1.out; have := HJ3.out; have := HJ23.out; omega⟩, ⟨by repeat (first | (with_reducible first | exact HB.out | apply below_alloc | apply pw_below_drewN | apply below_drew1) | exact HB.out)⟩⟩
                            · rw [if_neg c27] at H
                              have c27b0 : decide (x9_1 < 0) = false := decide_eq_false c27
                              clear c27
                              have H' := Aside0.mk H
                              clear H
                              go_wp2
                              go_roundg kj23
                              case measure => have := HK1.out; have := HJ3.out; have := HJ23.out; omega
                              case rel => exact ⟨(Go.bits .and .i64 t106 16383), (x7_1), (Go.bits .and .i64 t106 16383), (x9_1), (by first | rfl | (simp; done) | (simp [*]; done)), (by first | rfl | (simp; done) | (simp [*]; done)), (by first | rfl | (simp; done) | (simp [*]; done)), (by first | rfl | (simp; done) | (simp [*]; done)), H', ⟨by have := HK1.out; have := HJ3.out; have := HJ23.out; omega⟩, ⟨by repeat (first | (with_reducible first | exact HB.out | apply below_alloc | apply pw_below_drewN | apply below_drew1) | exact HB.out)⟩⟩
                    · rw [if_neg c22] at H
                      have c22b0 : decide (191 < (wrap64 (bt a0 x1_1))) = false := decide_eq_false c22
                      clear c22
                      by_cases c28 : (wrap64 (bt a0 x1_1)) > 63
                      · rw [if_pos c28] at H
                        have c28b0 : decide (63 < (wrap64 (bt a0 x1_1))) = true := decide_eq_true c28
                        clear c28
                        simp only [Option.some.injEq, Prod.mk.injEq] at H
                        obtain ⟨rfl, rfl, rfl⟩ := H
                        have p9 : 0 ≤ (x1_1 : Int) := of_decide_eq_true (by first | (with_reducible assumption) | assumption)
                        have q9 : x1_1 < (a0.size : Int) := of_decide_eq_true (by first | (with_reducible assumption) | assumption)
                        have hx9 := bt_at a0 x1_1
                        replace p9 := eq_true p9
                        replace q9 := eq_true q9
                        go_wp2
                        go_ret3
                        exact ⟨by first | rfl | (simp [errW_none, errW_some] <;> rfl) | (simp [*, errW_none, errW_some] <;> rfl), by repeat (first | (with_reducible first | exact HB.out | apply below_alloc | apply pw_below_drewN | apply below_drew1) | exact HB.out)⟩
                      · rw [if_neg c28] at H
                        have c28b0 : decide (63 < (wrap64 (bt a0 x1_1))) = false := decide_eq_false c28
                        clear c28
                        by_cases c29 : (wrap64 (bt a0 x1_1)) > (wrap64 ((wrap64 ((a0.size : Int) - x1_1)) - 1))
                        · rw [if_pos c29] at H
                          have c29b0 : decide ((wrap64 ((wrap64 ((a0.size : Int) - x1_1)) - 1)) < (wrap64 (bt a0 x1_1))) = true := decide_eq_true c29
                          clear c29
                          simp only [Option.some.injEq, Prod.mk.injEq] at H
                          obtain ⟨rfl, rfl, rfl⟩ := H
                          have p9 : 0 ≤ (x1_1 : Int) := of_decide_eq_true (by first | (with_reducible assumption) | assumption)
                          have q9 : x1_1 < (a0.size : Int) := of_decide_eq_true (by first | (with_reducible assumption) | assumption)
                          have hx9 := bt_at a0 x1_1
                          replace p9 := eq_true p9
                          replace q9 := eq_true q9
                          go_wp2
                          go_ret3
                          exact ⟨by first | rfl | (simp [errW_none, errW_some] <;> rfl) | (simp [*, errW_none, errW_some] <;> rfl), by repeat (first | (with_reducible first | exact HB.out | apply below_alloc | apply pw_below_drewN | apply below_drew1) | exact HB.out)⟩
                        · rw [if_neg c29] at H
                          have c29b0 : decide ((wrap64 ((wrap64 ((a0.size : Int) - x1_1)) - 1)) < (wrap64 (bt a0 x1_1))) = false := decide_eq_false c29
                          clear c29
                          have c30b0 := eq_true (of_decide_eq_true (by first | (with_reducible assumption) | assumption) : 0 ≤ x1_1)
                          by_cases c31 : x1_1 ≤ (wrap64 ((wrap64 (x1_1 + 1)) + (wrap64 (bt a0 x1_1))))
                          · rw [if_pos c31] at H
                            have c31b0 := eq_true c31
                            have c31b1 : decide (x1_1 ≤ (wrap64 ((wrap64 (x1_1 + 1)) + (wrap64 (bt a0 x1_1))))) = true := decide_eq_true c31
                            by_cases c32 : (wrap64 ((wrap64 (x1_1 + 1)) + (wrap64 (bt a0 x1_1)))) ≤ (a0.size : Int)
                            · rw [if_pos c32] at H
                              have c32b0 := eq_true c32
                              have c32b1 : decide ((wrap64 ((wrap64 (x1_1 + 1)) + (wrap64 (bt a0 x1_1)))) ≤ (a0.size : Int)) = true := decide_eq_true c32
                              by_cases c33 : x7_1.size + (a0.extract (x1_1 : Int).toNat ((wrap64 ((wrap64 (x1_1 + 1)) + (wrap64 (bt a0 x1_1)))) : Int).toNat).size ≤ 9223372036854775807
                              · rw [if_pos c33] at H
                                have c33b0 := eq_true c33
                                have c33b1 : decide (x7_1.size + (a0.extract (x1_1 : Int).toNat ((wrap64 ((wrap64 (x1_1 + 1)) + (wrap64 (bt a0 x1_1)))) : Int).toNat).size ≤ 9223372036854775807) = true := decide_eq_true c33
                                try have c33b2 : (9223372036854775807 < x7_1.size + (a0.extract (x1_1 : Int).toNat ((wrap64 ((wrap64 (x1_1 + 1)) + (wrap64 (bt a0 x1_1)))) : Int).toNat).size) = False := eq_false (Nat.not_lt.2 c33)
                                have H' := Aside0.mk H
                                clear H
                                have p9 : 0 ≤ (x1_1 : Int) := of_decide_eq_true (by first | (with_reducible assumption) | assumption)
                                have q9 : x1_1 < (a0.size : Int) := of_decide_eq_true (by first | (with_reducible assumption) | assumption)
                                have hx9 := bt_at a0 x1_1
                                replace p9 := eq_true p9
                                replace q9 := eq_true q9
                                go_wp2
                                go_roundg kj3
                                case measure => have := HK1.out; have := HJ3.out; omega
                                case rel => exact ⟨(wrap64 ((wrap64 (x1_1 + 1)) + (wrap64 (bt a0 x1_1)))), (x7_1 ++ (a0.extract (x1_1 : Int).toNat ((wrap64 ((wrap64 (x1_1 + 1)) + (wrap64 (bt a0 x1_1)))) : Int).toNat)), (x8_1), (x9_1), (by first | rfl | (simp; done) | (simp [*]; done)), (by first | rfl | (simp; done) | (simp [*]; done)), (by first | rfl | (simp; done) | (simp [*]; done)), (by first | rfl | (simp; done) | (simp [*]; done)), H', ⟨by have := HK1.out; have := HJ3.out; omega⟩, ⟨by repeat (first | (with_reducible first | exact HB.out | apply below_alloc | apply pw_below_drewN | apply below_drew1) | exact HB.out)⟩⟩
                              · rw [if_neg c33] at H
                                exact absurd H (by simp)
                            · rw [if_neg c32] at H
                              exact absurd H (by simp)
                          · rw [if_neg c31] at H
                            exact absurd H (by simp)
                · rw [if_neg c8] at H
                  exact absurd H (by simp)
              · rw [if_neg c7] at H
                exact absurd H (by simp)
            · replace c6 := Bool.eq_false_iff.mpr c6
              subst c6
              have H1 : (some ((⟨#[]⟩ : ByteArray), 0, 500)) = some (r1, r2, r3) := by rw [if_neg (show ¬ (false = true) by decide)] at H; exact H
              clear H
              have H := H1
              clear H1
              simp only [Option.some.injEq, Prod.mk.injEq] at H
              obtain ⟨rfl, rfl, rfl⟩ := H
              go_wp2
              go_ret3
              exact ⟨by first | rfl | (simp [errW_none, errW_some] <;> rfl) | (simp [*, errW_none, errW_some] <;> rfl), by repeat (first | (with_reducible first | exact HB.out | apply below_alloc | apply pw_below_drewN | apply below_drew1) | exact HB.out)⟩

/-! ### wimpleref4_DataMay: function 98 -/
def wimpleref4_DataMay.f (a0 : Int) (a1 : ByteArray) : Option (Bool) := if a1.size ≤ 9223372036854775000 then some (Go.Proofs.Ytjklgdpffmaamaa.Rd.mayD a0 a1) else none
set_option maxHeartbeats 8000000 in
set_option maxRecDepth 100000 in
theorem wimpleref4_DataMay.calls (a0 : Int) (a1 : ByteArray) (r : Bool) (w : World) (h : wimpleref4_DataMay.f a0 a1 = some r) :
    Calls Try.prog 98 #[.int .i64 a0, .string a1] w fun e w' => e = .returned (.bool r) ∧ Below w.heap.size w w' := by
  unfold wimpleref4_DataMay.f at h
  split at h
  · rename_i hs
    simp only [Option.some.injEq] at h
    subst h
    exact Go.Proofs.Ytjklgdpffmaamaa.Rd.rdmay a0 a1 w hs
  · cases h

end Go.Proofs.Ytjklgdpffmaamaa.PRf

namespace Go.Proofs.Ytjklgdpffmaamaa.Wm
open Go.RowKit Go.PlainAid Go.Proofs.Ytjklgdpffmaamaa.Base Go.Proofs.Ytjklgdpffmaamaa.Oct Go.Proofs.Ytjklgdpffmaamaa.Nm Go.Proofs.Ytjklgdpffmaamaa.Wr Go.Proofs.Ytjklgdpffmaamaa.CompS Go.Proofs.Ytjklgdpffmaamaa.Pu
open Go.Proofs.Ytjklgdpffmaamaa.PCm (comp_Name.f comp_Name.l0 comp_Data.f comp_names.f comp_shape.f)
open Go.Proofs.Ytjklgdpffmaamaa.PRf (wimpleref1_Num.f wimpleref1_Num.l0 wimpleref1_Num.j0 wimpleref4_Name.f wimpleref4_Name.l0 wimpleref4_Name.j1 wimpleref4_Name.j2 wimpleref1_May.f)
open Go.Proofs.YtjklgdpffmaamaaW.PrintWords (Ev bytesOf bytesOf_length LeO)
set_option linter.unusedVariables false
/-! ### Numbers -/
theorem rn_step {s : ByteArray} {i j : Nat} {n x : Int} {r : Int × Int × Int} (hs : s.size ≤ 1000000) (h : i + j < s.size) (hj : (j : Int) < n) (h0 : 0 ≤ x) (h1 : x ≤ 16777215)
    (k : Ev (fun k => wimpleref1_Num.l0 k s (i : Int) n (x * 256 + bt s (i + j)) ((j + 1 : Nat) : Int)) r) : Ev (fun k => wimpleref1_Num.l0 k s (i : Int) n x (j : Int)) r := by
  have r0 := bt_nonneg s (i + j)
  have r1 := bt_le s (i + j)
  refine Ev.step (fun k => by rw [wimpleref1_Num.l0]) (Ev.pos hj ?_)
  rw [Pu.w64 (x := (i : Int) + (j : Int)) (by omega) (by omega), show (i : Int) + (j : Int) = ((i + j : Nat) : Int) by omega, bt_is, Pu.w64 (x := x * 256) (by omega) (by omega), Pu.w64 (x := bt s (i + j)) (by omega) (by omega),
    Pu.or_shl8 _ _ h0 (by omega) r0 (by omega), Pu.w64 (x := (j : Int) + 1) (by omega) (by omega), show (j : Int) + 1 = ((j + 1 : Nat) : Int) by omega]
  exact Ev.pos (by omega) (Ev.pos (by omega) k)
theorem rn_end {s : ByteArray} {i : Nat} {j n x : Int} (h : n ≤ j) (hi : i ≤ 1000000) (hn : 0 ≤ n) (hn2 : n ≤ 4) : Ev (fun k => wimpleref1_Num.l0 k s (i : Int) n x j) (x, (i : Int) + n, 0) := by
  refine Ev.step (fun k => by rw [wimpleref1_Num.l0]) (Ev.neg (by omega) ?_)
  rw [Pu.w64 (x := (i : Int) + n) (by omega) (by omega)]
  exact Ev.some _ fun _ => rfl
theorem rn_in {s : ByteArray} {i : Nat} {n : Int} {r : Int × Int × Int} (hs : s.size ≤ 1000000) (hn : 0 ≤ n) (h : (i : Int) + n ≤ (s.size : Int)) (k : Ev (fun k => wimpleref1_Num.l0 k s (i : Int) n 0 0) r) : Ev (fun k => wimpleref1_Num.f k s (i : Int) n) r := by
  refine Ev.neg (by omega) (Ev.neg (by omega) ?_)
  rw [Pu.w64 (x := (s.size : Int) - (i : Int)) (by omega) (by omega), decide_eq_false (by omega)]
  exact Ev.step (fun k => by rw [wimpleref1_Num.j0]) (Ev.neg (by simp) k)
theorem rn_cut {s : ByteArray} {i : Nat} {n : Int} (hs : s.size ≤ 1000000) (hn : 0 ≤ n) (hn2 : n ≤ 4) (h : (s.size : Int) < (i : Int) + n) : Ev (fun k => wimpleref1_Num.f k s (i : Int) n) (0, 0, 300) := by
  refine Ev.neg (by omega) ?_
  by_cases hi : (i : Int) > (s.size : Int)
  · exact Ev.pos hi (Ev.step (fun k => by rw [wimpleref1_Num.j0]) (Ev.pos rfl (Ev.some _ fun _ => rfl)))
  · refine Ev.neg hi ?_
    rw [Pu.w64 (x := (s.size : Int) - (i : Int)) (by omega) (by omega), decide_eq_true (by omega)]
    exact Ev.step (fun k => by rw [wimpleref1_Num.j0]) (Ev.pos rfl (Ev.some _ fun _ => rfl))
theorem rnum2 {s : ByteArray} {i : Nat} (hs : s.size ≤ 1000000) (h : i + 2 ≤ s.size) : Ev (fun k => wimpleref1_Num.f k s (i : Int) 2) (be2 s i, ((i + 2 : Nat) : Int), 0) := by
  have r0 := bt_nonneg s i
  have r1 := bt_le s i
  refine rn_in hs (by decide) (by omega) (rn_step (j := 0) hs (by omega) (by decide) (by decide) (by decide) ?_)
  refine rn_step (j := 1) hs (by omega) (by decide) (by rw [Nat.add_zero]; omega) (by rw [Nat.add_zero]; omega) ?_
  have := rn_end (s := s) (i := i) (j := ((1 + 1 : Nat) : Int)) (n := 2) (x := (0 * 256 + bt s (i + 0)) * 256 + bt s (i + 1)) (by decide) (by omega) (by decide) (by decide)
  rw [Nat.add_zero, Int.zero_mul, Int.zero_add] at this ⊢
  exact this
theorem rnum4 {s : ByteArray} {i : Nat} (hs : s.size ≤ 1000000) (h : i + 4 ≤ s.size) : Ev (fun k => wimpleref1_Num.f k s (i : Int) 4) (be4 s i, ((i + 4 : Nat) : Int), 0) := by
  have r0 := bt_nonneg s i
  have r1 := bt_le s i
  have q0 := bt_nonneg s (i + 1)
  have q1 := bt_le s (i + 1)
  have p0 := bt_nonneg s (i + 2)
  have p1 := bt_le s (i + 2)
  refine rn_in hs (by decide) (by omega) (rn_step (j := 0) hs (by omega) (by decide) (by decide) (by decide) ?_)
  rw [Nat.add_zero, Int.zero_mul, Int.zero_add]
  refine rn_step (j := 1) hs (by omega) (by decide) (by omega) (by omega) ?_
  refine rn_step (j := 2) hs (by omega) (by decide) (by omega) (by omega) ?_
  refine rn_step (j := 3) hs (by omega) (by decide) (by omega) (by omega) ?_
  exact rn_end (s := s) (i := i) (j := ((3 + 1 : Nat) : Int)) (n := 4) (by decide) (by omega) (by decide) (by decide)
/-! ### A name, round by round -/
theorem rl_end {s : ByteArray} {i : Int} {out : ByteArray} {bg bh : Int} (h : (s.size : Int) ≤ i) : Ev (fun k => wimpleref4_Name.l0 k s i out bg bh) err := by
  refine Ev.step (fun k => by rw [wimpleref4_Name.l0]) (Ev.neg (by omega) ?_)
  exact Ev.step (fun k => by rw [wimpleref4_Name.j1]) (Ev.neg (by simp) (Ev.some _ fun _ => rfl))
theorem rl_over {s : ByteArray} {i : Int} {out : ByteArray} {bg bh : Int} (h : 255 < out.size) : Ev (fun k => wimpleref4_Name.l0 k s i out bg bh) err := by
  by_cases hi : i < (s.size : Int)
  · refine Ev.step (fun k => by rw [wimpleref4_Name.l0]) (Ev.pos hi ?_)
    rw [decide_eq_false (show ¬ (out.size : Int) ≤ 255 by omega)]
    exact Ev.step (fun k => by rw [wimpleref4_Name.j1]) (Ev.neg (by simp) (Ev.some _ fun _ => rfl))
  · exact rl_end (by omega)
section
variable {s : ByteArray} {i : Nat} {out : ByteArray} {bg bh : Int} {b c : Nat} {r : ByteArray × Int × Int}
theorem rl_zero (hs : s.size ≤ 1000000) (h : i < s.size) (ho : out.size ≤ 255) (hb : bt s i = 0) : Ev (fun k => wimpleref4_Name.l0 k s (i : Int) out bg bh) (if nameB (out ++ root) = true then (out ++ root, (if bh < 0 then ((i + 1 : Nat) : Int) else bh), 0) else err) := by
  have hb' := (bt_is s i).trans hb
  refine Ev.step (fun k => by rw [wimpleref4_Name.l0]) (Ev.pos (by omega) ?_)
  rw [decide_eq_true (show (out.size : Int) ≤ 255 by omega)]
  refine Ev.step (fun k => by rw [wimpleref4_Name.j1]) (Ev.pos rfl (Ev.pos (by omega) (Ev.pos (by omega) ?_)))
  rw [hb']
  refine Ev.pos (Pu.w64 (by decide) (by decide)) ?_
  rw [Pu.w64 (x := (i : Int) + 1) (by omega) (by omega), show (i : Int) + 1 = ((i + 1 : Nat) : Int) by omega]
  by_cases hm : nameB (out ++ root) = true
  · rw [if_pos hm]
    by_cases hbh : bh < 0
    · rw [show (if bh < 0 then ((i + 1 : Nat) : Int) else bh) = ((i + 1 : Nat) : Int) from if_pos hbh]
      exact Ev.pos hbh (Ev.pos (by omega) (Ev.call rfl (Ev.pos hm (Ev.some _ fun _ => rfl))))
    · rw [show (if bh < 0 then ((i + 1 : Nat) : Int) else bh) = bh from if_neg hbh]
      exact Ev.neg hbh (Ev.pos (by omega) (Ev.call rfl (Ev.pos hm (Ev.some _ fun _ => rfl))))
  · rw [if_neg hm]
    by_cases hbh : bh < 0
    · exact Ev.pos hbh (Ev.pos (by omega) (Ev.call rfl (Ev.neg hm (Ev.some _ fun _ => rfl))))
    · exact Ev.neg hbh (Ev.pos (by omega) (Ev.call rfl (Ev.neg hm (Ev.some _ fun _ => rfl))))
theorem rl_lab (hs : s.size ≤ 1000000) (ho : out.size ≤ 255) (hb : bt s i = (b : Int)) (hz : b ≠ 0) (h63 : b ≤ 63) (hf : i + 1 + b ≤ s.size)
    (h : Ev (fun k => wimpleref4_Name.l0 k s ((i + 1 + b : Nat) : Int) (out ++ s.extract i (i + 1 + b)) bg bh) r) : Ev (fun k => wimpleref4_Name.l0 k s (i : Int) out bg bh) r := by
  have hb' := (bt_is s i).trans hb
  refine Ev.step (fun k => by rw [wimpleref4_Name.l0]) (Ev.pos (by omega) ?_)
  rw [decide_eq_true (show (out.size : Int) ≤ 255 by omega)]
  refine Ev.step (fun k => by rw [wimpleref4_Name.j1]) (Ev.pos rfl (Ev.pos (by omega) (Ev.pos (by omega) ?_)))
  rw [hb', Pu.w64 (x := (b : Int)) (by omega) (by omega)]
  refine Ev.neg (by omega) (Ev.neg (by omega) (Ev.neg (by omega) ?_))
  rw [Pu.w64 (x := (s.size : Int) - (i : Int)) (by omega) (by omega), Pu.w64 (x := (s.size : Int) - (i : Int) - 1) (by omega) (by omega), Pu.w64 (x := (i : Int) + 1) (by omega) (by omega), Pu.w64 (x := (i : Int) + 1 + (b : Int)) (by omega) (by omega), show (i : Int) + 1 + (b : Int) = ((i + 1 + b : Nat) : Int) by omega]
  simp only [Int.toNat_natCast]
  refine Ev.neg (by omega) (Ev.pos (by omega) (Ev.pos (by omega) (Ev.pos ?_ h)))
  rw [ByteArray.size_extract]; omega
theorem rl_short (hs : s.size ≤ 1000000) (h : i < s.size) (ho : out.size ≤ 255) (hb : bt s i = (b : Int)) (hz : b ≠ 0) (h191 : b ≤ 191) (hf : 63 < b ∨ s.size < i + 1 + b) : Ev (fun k => wimpleref4_Name.l0 k s (i : Int) out bg bh) err := by
  have hb' := (bt_is s i).trans hb
  refine Ev.step (fun k => by rw [wimpleref4_Name.l0]) (Ev.pos (by omega) ?_)
  rw [decide_eq_true (show (out.size : Int) ≤ 255 by omega)]
  refine Ev.step (fun k => by rw [wimpleref4_Name.j1]) (Ev.pos rfl (Ev.pos (by omega) (Ev.pos (by omega) ?_)))
  rw [hb', Pu.w64 (x := (b : Int)) (by omega) (by omega)]
  refine Ev.neg (by omega) (Ev.neg (by omega) ?_)
  by_cases h6 : 63 < b
  · exact Ev.pos (by omega) (Ev.some _ fun _ => rfl)
  · rw [Pu.w64 (x := (s.size : Int) - (i : Int)) (by omega) (by omega), Pu.w64 (x := (s.size : Int) - (i : Int) - 1) (by omega) (by omega)]
    exact Ev.neg (by omega) (Ev.pos (by omega) (Ev.some _ fun _ => rfl))
theorem rl_cut (hs : s.size ≤ 1000000) (h : i < s.size) (ho : out.size ≤ 255) (hb : bt s i = (b : Int)) (h192 : 192 ≤ b) (hf : s.size ≤ i + 1) : Ev (fun k => wimpleref4_Name.l0 k s (i : Int) out bg bh) err := by
  have hb' := (bt_is s i).trans hb
  have r1 := bt_le s i
  refine Ev.step (fun k => by rw [wimpleref4_Name.l0]) (Ev.pos (by omega) ?_)
  rw [decide_eq_true (show (out.size : Int) ≤ 255 by omega)]
  refine Ev.step (fun k => by rw [wimpleref4_Name.j1]) (Ev.pos rfl (Ev.pos (by omega) (Ev.pos (by omega) ?_)))
  rw [hb', Pu.w64 (x := (b : Int)) (by omega) (by omega)]
  refine Ev.neg (by omega) (Ev.pos (by omega) (Ev.bind (rn_cut hs (by decide) (by decide) (by omega)) (Ev.neg (by show ¬ (300 : Int) = 0; decide) ?_)))
  exact Ev.step (fun k => by rw [wimpleref4_Name.j2]) (Ev.pos rfl (Ev.some _ fun _ => rfl))
theorem rl_ptr (hs : s.size ≤ 1000000) (h : i + 1 < s.size) (ho : out.size ≤ 255) (hb : bt s i = (b : Int)) (h192 : 192 ≤ b) (hc : bt s (i + 1) = (c : Int)) 
    (h1 : bg ≤ (((b - 192) * 256 + c : Nat) : Int) → r = err) (h2 : (((b - 192) * 256 + c : Nat) : Int) < bg → Ev (fun k => wimpleref4_Name.l0 k s (((b - 192) * 256 + c : Nat) : Int) out (((b - 192) * 256 + c : Nat) : Int) (if bh < 0 then ((i + 2 : Nat) : Int) else bh)) r) :
    Ev (fun k => wimpleref4_Name.l0 k s (i : Int) out bg bh) r := by
  have hb' := (bt_is s i).trans hb
  have r1 := bt_le s i
  have r2 := bt_le s (i + 1)
  have e2 : be2 s i = (b : Int) * 256 + (c : Int) := by unfold be2; rw [hb, hc]
  have em : Go.bits .and .i64 (be2 s i) 16383 = (((b - 192) * 256 + c : Nat) : Int) := by rw [and_16383, e2]; omega
  refine Ev.step (fun k => by rw [wimpleref4_Name.l0]) (Ev.pos (by omega) ?_)
  rw [decide_eq_true (show (out.size : Int) ≤ 255 by omega)]
  refine Ev.step (fun k => by rw [wimpleref4_Name.j1]) (Ev.pos rfl (Ev.pos (by omega) (Ev.pos (by omega) ?_)))
  rw [hb', Pu.w64 (x := (b : Int)) (by omega) (by omega)]
  refine Ev.neg (by omega) (Ev.pos (by omega) (Ev.bind (rnum2 hs (by omega)) (Ev.pos rfl ?_)))
  dsimp only
  rw [em]
  by_cases hg : bg ≤ (((b - 192) * 256 + c : Nat) : Int)
  · rw [decide_eq_true (by omega), h1 hg]
    exact Ev.step (fun k => by rw [wimpleref4_Name.j2]) (Ev.pos rfl (Ev.some _ fun _ => rfl))
  · rw [decide_eq_false (by omega)]
    have h2 := h2 (by omega)
    refine Ev.step (fun k => by rw [wimpleref4_Name.j2]) (Ev.neg (by simp) ?_)
    rw [em]
    by_cases hbh : bh < 0
    · rw [if_pos hbh] at h2
      exact Ev.pos hbh h2
    · rw [if_neg hbh] at h2
      exact Ev.neg hbh h2
end
/-! ### A name -/
theorem lies_rread {S : ByteArray} (hS : S.size ≤ 1000000) {bg : Nat} {r : ByteArray} {i nx : Nat} (h : Lies S bg r i nx) : ∀ (out : ByteArray) (bh : Int), nameB (out ++ r) = true →
    Ev (fun k => wimpleref4_Name.l0 k S (i : Int) out (bg : Int) bh) (out ++ r, (if bh < 0 then (nx : Int) else bh), 0) := by
  induction h with
  | fin bg i h h0 =>
    intro out bh ho
    have z := name_size ho
    rw [ByteArray.size_append] at z
    have := rl_zero (bg := (bg : Int)) (bh := bh) hS h (show out.size ≤ 255 by omega) h0
    rw [if_pos ho] at this
    exact this
  | lab bg i k r nx hb h0 h1 h hr ih =>
    intro out bh ho
    have z := name_size ho
    rw [ByteArray.size_append, ByteArray.size_append] at z
    rw [← ByteArray.append_assoc] at ho ⊢
    exact rl_lab hS (by omega) hb (by omega) h1 h (ih _ bh ho)
  | ptr bg i b c tg r nx hb hc h0 ht hlt h hr ih =>
    intro out bh ho
    have z := name_size ho
    rw [ByteArray.size_append] at z
    subst ht
    refine rl_ptr hS h (by omega) hb h0 hc (fun h => by omega) (fun _ => ?_)
    have := ih out (if bh < 0 then ((i + 2 : Nat) : Int) else bh) ho
    by_cases hbh : bh < 0
    · rw [if_pos hbh] at this ⊢
      rw [if_neg (by omega)] at this
      exact this
    · rw [if_neg hbh] at this ⊢
      rw [if_neg hbh] at this
      exact this
theorem rmeas {bg tg n l : Nat} (h : 350 * bg + 350 ≤ n + 1 + l) (h2 : tg + 1 ≤ bg) : 350 * tg + 350 ≤ n + l := by omega
theorem name_over {s : ByteArray} (h : 255 < s.size) : nameB s = false := by
  cases e : nameB s with
  | false => rfl
  | true => have := name_size e; omega
theorem rl_total {S : ByteArray} (hS : S.size ≤ 1000000) : ∀ (n bg i : Nat) (out : ByteArray) (bh : Int), 350 * bg + 350 ≤ n + out.size → out.size ≤ 330 → Ev (fun k => wimpleref4_Name.l0 k S (i : Int) out (bg : Int) bh) err ∨ ∃ r nx, Lies S bg r i nx ∧ out.size + r.size ≤ 255 := by
  intro n
  induction n with
  | zero => intro bg i out bh h h2; omega
  | succ n ih =>
    intro bg i out bh h h2
    by_cases ho : 255 < out.size
    · exact .inl (rl_over ho)
    by_cases hi : S.size ≤ i
    · exact .inl (rl_end (by omega))
    have r0 := bt_nonneg S i
    have r1 := bt_le S i
    obtain ⟨b, eb⟩ : ∃ b : Nat, bt S i = (b : Int) := ⟨(bt S i).toNat, by omega⟩
    rw [eb] at r0 r1
    by_cases hz : b = 0
    · have z1 : root.size = 1 := rfl
      by_cases h255 : out.size = 255
      · have := rl_zero (bg := (bg : Int)) (bh := bh) hS (show i < S.size by omega) (show out.size ≤ 255 by omega) (by rw [eb, hz]; rfl)
        rw [if_neg (by rw [name_over (by rw [ByteArray.size_append]; omega)]; simp)] at this
        exact .inl this
      · exact .inr ⟨root, i + 1, .fin bg i (by omega) (by rw [eb, hz]; rfl), by omega⟩
    by_cases h63 : b ≤ 63
    · by_cases hf : i + 1 + b ≤ S.size
      · have z : (S.extract i (i + 1 + b)).size = 1 + b := by rw [ByteArray.size_extract]; omega
        rcases ih bg (i + 1 + b) (out ++ S.extract i (i + 1 + b)) bh (by rw [ByteArray.size_append, z]; omega) (by rw [ByteArray.size_append, z]; omega) with k | ⟨r, nx, k, hk⟩
        · exact .inl (rl_lab hS (by omega) eb hz h63 hf k)
        · rw [ByteArray.size_append, z] at hk
          refine .inr ⟨_, nx, .lab bg i b r nx eb (by omega) h63 hf k, ?_⟩
          rw [ByteArray.size_append, z]; omega
      · exact .inl (rl_short hS (by omega) (by omega) eb hz (by omega) (.inr (by omega)))
    · by_cases h191 : b ≤ 191
      · exact .inl (rl_short hS (by omega) (by omega) eb hz h191 (.inl (by omega)))
      · by_cases hc1 : S.size ≤ i + 1
        · exact .inl (rl_cut hS (by omega) (by omega) eb (by omega) hc1)
        · have s0 := bt_nonneg S (i + 1)
          have s1 := bt_le S (i + 1)
          obtain ⟨c, ec⟩ : ∃ c : Nat, bt S (i + 1) = (c : Int) := ⟨(bt S (i + 1)).toNat, by omega⟩
          obtain ⟨tg, htg⟩ : ∃ tg : Nat, tg = (b - 192) * 256 + c := ⟨_, rfl⟩
          by_cases hto : bg ≤ tg
          · exact .inl (rl_ptr hS (by omega) (by omega) eb (by omega) ec (fun _ => rfl) (fun h => by rw [← htg] at h; omega))
          · rcases ih tg tg out (if bh < 0 then ((i + 2 : Nat) : Int) else bh) (rmeas h (by omega)) h2 with k | ⟨r, nx, k, hk⟩
            · refine .inl (rl_ptr hS (by omega) (by omega) eb (by omega) ec (fun _ => rfl) (fun _ => ?_))
              rw [← htg]; exact k
            · exact .inr ⟨r, i + 2, .ptr bg i b c tg r nx eb ec (by omega) htg (by omega) (by omega) k, hk⟩
theorem rf_at {s : ByteArray} {i : Nat} {r : ByteArray × Int × Int} (h : Ev (fun k => wimpleref4_Name.l0 k s (i : Int) (⟨#[]⟩ : ByteArray) (i : Int) (-1)) r) : Ev (fun k => wimpleref4_Name.f k s (i : Int)) r := Ev.neg (by omega) h
/-- A name at a place: the document and comp.Name say the same. -/
theorem name_both {S : ByteArray} (hS : S.size ≤ 1000000) (i : Nat) : (Ev (fun k => comp_Name.f k S (i : Int)) err ∧ Ev (fun k => wimpleref4_Name.f k S (i : Int)) err) ∨
    ∃ r nx, nameB r = true ∧ i < nx ∧ nx ≤ S.size ∧ Ev (fun k => comp_Name.f k S (i : Int)) (r, (nx : Int), 0) ∧ Ev (fun k => wimpleref4_Name.f k S (i : Int)) (r, (nx : Int), 0) := by
  have lies : ∀ (r : ByteArray) (nx : Nat), Lies S i r i nx → r.size ≤ 255 → ∃ r nx, nameB r = true ∧ i < nx ∧ nx ≤ S.size ∧ Ev (fun k => comp_Name.f k S (i : Int)) (r, (nx : Int), 0) ∧ Ev (fun k => wimpleref4_Name.f k S (i : Int)) (r, (nx : Int), 0) := by
    intro r nx k hk
    have hn := lies_may k hk
    have h1 := k.name (S := S) hS hk
    have h2 := lies_rread hS k (⟨#[]⟩ : ByteArray) (-1) (by rw [show (⟨#[]⟩ : ByteArray) ++ r = r from ByteArray.empty_append]; exact hn)
    rw [show (⟨#[]⟩ : ByteArray) ++ r = r from ByteArray.empty_append, if_pos (by decide)] at h2
    exact ⟨r, nx, hn, (lies_next k).1, (lies_next k).2, h1, rf_at h2⟩
  rcases l_total hS (350 * i + 350) i i [] (-1) (by simp) (by simp) with k | ⟨r, nx, k, hk⟩
  · rcases rl_total hS (350 * i + 350) i i (⟨#[]⟩ : ByteArray) (-1) (by simp) (by show 0 ≤ 330; omega) with q | ⟨r, nx, q, hq⟩
    · exact .inl ⟨f_at k, rf_at q⟩
    · exact .inr (lies r nx q (by have : (⟨#[]⟩ : ByteArray).size = 0 := rfl; omega))
  · exact .inr (lies r nx k (by simpa using hk))
end Go.Proofs.Ytjklgdpffmaamaa.Wm
