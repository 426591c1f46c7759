/- The row of the law WireTurned, where what it reads weighs no more than the reach, out of its pure statement and the printed walk. -/
import Derived.Deep.RegionHeld3
import Derived.Lib.ConvBytes
import Derived.Laws.IdiomStrings
import Derived.Test.YtjklgdpffmaamaaRows
import Derived.WalkKit
import Derived.ProofKit
import Derived.OpenShut
import Derived.ShutString
import Derived.ChangeOld
import Derived.Below
import Derived.SizedLaws
import Derived.Carry
import Derived.Test.YtjklgdpffmaamaaSt1
import Derived.Test.YtjklgdpffmaamaaSt2
import Derived.Test.YtjklgdpffmaamaaSt3
import Derived.Test.YtjklgdpffmaamaaSt4
import Derived.Test.YtjklgdpffmaamaaSt5
import Derived.Test.YtjklgdpffmaamaaSt6
namespace Go.Proofs.Ytjklgdpffmaamaa.Wm
open Go.RowKit Go.PlainAid Go.Maps Go.Proofs.Ytjklgdpffmaamaa.Base Go.Proofs.Ytjklgdpffmaamaa.Oct Go.Proofs.Ytjklgdpffmaamaa.Nm Go.Proofs.Ytjklgdpffmaamaa.Wr
open Go.Proofs.YtjklgdpffmaamaaW.PrintWords (blk_cell blk_below blk_put blk_frozen blk_ne blk_new blk_lt blk_grown)
set_option linter.unusedVariables false
theorem rSt_long {S : ByteArray} {m : ByteArray → Option Int} {r : Rr} (h : 4096 < S.size + (outN m r.name).size + 10 + r.data.size) : (rSt ⟨S, m, false⟩ r).lg = true := by
  cases hl : (rSt ⟨S, m, false⟩ r).lg with
  | true => rfl
  | false =>
    have := (rSt_ok hl).2.2.1
    have : S.size + (outN m r.name).size + 10 + r.data.size ≤ 4096 := this
    omega
theorem rSt_short {S : ByteArray} {m : ByteArray → Option Int} {r : Rr} (hn : nameB r.name = true) (h : ¬ 4096 < S.size + (outN m r.name).size + 10 + r.data.size) : (rSt ⟨S, m, false⟩ r) = ⟨S ++ outN m r.name ++ (p16 r.type ++ p16 r.cls) ++ (p32 r.ttl ++ p16 (r.data.size : Int) ++ r.data), putN m r.name S.size, false⟩ := by
  have z4 : (p16 r.type ++ p16 r.cls).size = 4 := by rw [ByteArray.size_append, p16_size, p16_size]
  have z6 : (p32 r.ttl ++ p16 (r.data.size : Int) ++ r.data).size = 6 + r.data.size := by simp only [ByteArray.size_append, p16_size, p32_size]
  unfold rSt qSt nameSt
  rw [if_pos hn, if_neg (by show ¬ 4096 < S.size + (outN m r.name).size; omega)]
  unfold rawSt
  have c1 : ¬ 4096 < (S ++ outN m r.name).size + (p16 r.type ++ p16 r.cls).size := by rw [ByteArray.size_append, z4]; omega
  have c2 : ¬ 4096 < (S ++ outN m r.name ++ (p16 r.type ++ p16 r.cls)).size + (p32 r.ttl ++ p16 (r.data.size : Int) ++ r.data).size := by rw [ByteArray.size_append, ByteArray.size_append, z4, z6]; omega
  simp only [if_neg c1, if_neg c2]
section
variable {base g : Nat} {w w' : World} {v : Value} {S : ByteArray} {ms : List (ByteArray × Int)}
/-- What the writing of a part leaves: all is well, or there are too many bytes. -/
def WPost (base : Nat) (w : World) (g : Nat) (st : St) (e : Ending) (yes no : Value) (w' : World) : Prop :=
  Below base w w' ∧ Kr w w' g ∧ (st.lg = true ∧ e = .returned no ∨ st.lg = false ∧ e = .returned yes ∧ ∃ v' ms', Rf base w' g v' st.S ms' ∧ mOf ms' = st.m ∧ Small st.m)
set_option maxHeartbeats 4000000 in
set_option maxRecDepth 100000 in
theorem rrc (R : Rf base w g v S ms) (r : Rr) (hn : nameB r.name = true) (hsm : Small (mOf ms)) (hd : r.data.size ≤ 65535) :
    Calls Try.prog 42 #[ptr g, .agg #[.string r.name, .int .i64 r.type, .int .i64 r.cls, .int .i64 r.ttl, .string r.data]] w fun e w' => WPost base w g (rSt ⟨S, mOf ms, false⟩ r) e (.bool true) (.bool false) w' := by
  have hx := R.len
  have hsn := name_size hn
  have hbase := R.base_le
  have Bx : Below w.heap.size w (w.alloc (.cells #[.string r.name, .int .i64 r.type, .int .i64 r.cls, .int .i64 r.ttl, .string r.data] 53)) := (Below.refl _ _).alloc (Nat.le_refl _) _
  have pr := blk_new w (.cells #[.string r.name, .int .i64 r.type, .int .i64 r.cls, .int .i64 r.ttl, .string r.data] 53)
  have R1 := R.below Bx
  have K1 := Kr.below (g := g) Bx
  have B1 := Bx.mono hbase
  have ho := outN_size (mOf ms) r.name hn
  have HBS := Lib.hid (show ∀ W, Below base w W → base ≤ W.heap.size from fun W h => Nat.le_trans hbase h.size)
  go_enter Try.func42, Try.ntmps42
  go_wp2_with fail
  refine (rname R1 r.name hn hsm).mono ?_
  generalize w.alloc (.cells #[.string r.name, .int .i64 r.type, .int .i64 r.cls, .int .i64 r.ttl, .string r.data] 53) = w1 at *
  have hgr : g ≠ w.heap.size := Nat.ne_of_lt (blk_lt R.blk)
  generalize w.heap.size = kr at *
  rintro e w2 hh
  by_cases hl : 4096 < S.size + (outN (mOf ms) r.name).size
  · rw [if_pos hl] at hh
    obtain ⟨rfl, R2, B2, K2⟩ := hh
    have HL := Lib.hid (rSt_long (S := S) (m := mOf ms) (r := r) (by omega))
    clear hl R2
    go_wp2_with fail
    go_ret
    exact ⟨B1.trans B2, K1.trans K2, .inl ⟨HL.out, rfl⟩⟩
  · rw [if_neg hl] at hh
    obtain ⟨rfl, v2, R2, B2, K2⟩ := hh
    replace B2 := B1.trans B2
    have p2 : w2.heap[kr]? = some (.cells #[.string r.name, .int .i64 r.type, .int .i64 r.cls, .int .i64 r.ttl, .string r.data] 53 (0, 0)) := (K2.block kr (blk_lt pr) (Ne.symm hgr) (fun cs q => by rw [pr] at q; injection q with q; injection q with _ q; exact absurd q (by decide))).trans pr
    replace K2 := K1.trans K2
    clear R1 B1 K1 pr Bx
    have zT : (p16 r.type ++ p16 r.cls ++ p32 r.ttl ++ p16 (r.data.size : Int) ++ r.data).size = 10 + r.data.size := by simp only [ByteArray.size_append, p16_size, p32_size]
    have zO : (S ++ outN (mOf ms) r.name).size = S.size + (outN (mOf ms) r.name).size := ByteArray.size_append
    by_cases hl2 : 4096 < S.size + (outN (mOf ms) r.name).size + 10 + r.data.size
    · have HL := Lib.hid (rSt_long (S := S) (m := mOf ms) (r := r) hl2)
      have HC : 4096 < (S ++ outN (mOf ms) r.name).size + (p16 r.type ++ p16 r.cls ++ p32 r.ttl ++ p16 (r.data.size : Int) ++ r.data).size := by omega
      have HC2 := Lib.hid HC
      clear HC zT zO hl2 hl
      have za := p16_size r.type
      have zb := p16_size r.cls
      have zc := p32_size r.ttl
      have zd := p16_size (r.data.size : Int)
      have nn0 : ¬ 9223372036854775807 < (p16 r.type).size + (p16 r.cls).size := by (try simp only [ByteArray.size_append]); omega
      have nn1 : ¬ 9223372036854775807 < (p16 r.type ++ p16 r.cls).size + (p32 r.ttl).size := by (try simp only [ByteArray.size_append]); omega
      have nn2 : ¬ 9223372036854775807 < (p16 r.type).size + (p16 r.cls).size + (p32 r.ttl).size := by (try simp only [ByteArray.size_append]); omega
      have nn3 : ¬ 9223372036854775807 < (p16 r.type ++ p16 r.cls ++ p32 r.ttl).size + (p16 (r.data.size : Int)).size := by (try simp only [ByteArray.size_append]); omega
      have nn4 : ¬ 9223372036854775807 < (p16 r.type).size + (p16 r.cls).size + (p32 r.ttl).size + (p16 (r.data.size : Int)).size := by (try simp only [ByteArray.size_append]); omega
      have nn5 : ¬ 9223372036854775807 < (p16 r.type ++ p16 r.cls ++ p32 r.ttl ++ p16 (r.data.size : Int)).size + (r.data).size := by (try simp only [ByteArray.size_append]); omega
      have nn6 : ¬ 9223372036854775807 < (p16 r.type).size + (p16 r.cls).size + (p32 r.ttl).size + (p16 (r.data.size : Int)).size + (r.data).size := by (try simp only [ByteArray.size_append]); omega
      clear za zb zc zd
      go_upto_region 3 with (fail)
      have c1 : w2.cell? ⟨kr, 1, none⟩ = some (.int .i64 r.type) := (blk_cell p2 1).trans rfl
      have c2 : w2.cell? ⟨kr, 2, none⟩ = some (.int .i64 r.cls) := (blk_cell p2 2).trans rfl
      have c3 : w2.cell? ⟨kr, 3, none⟩ = some (.int .i64 r.ttl) := (blk_cell p2 3).trans rfl
      have c4 : w2.cell? ⟨kr, 4, none⟩ = some (.string r.data) := (blk_cell p2 4).trans rfl
      have nw1 := World.new_ne w2 ⟨kr, 1, none⟩ c1
      have nw2 := World.new_ne w2 ⟨kr, 2, none⟩ c2
      have nw3 := World.new_ne w2 ⟨kr, 3, none⟩ c3
      have nw4 := World.new_ne w2 ⟨kr, 4, none⟩ c4
      replace p2 := blk_below p2 ((Below.refl w2.heap.size w2).drew)
      replace R2 := R2.below ((Below.refl w2.heap.size w2).drew)
      replace K2 := K2.trans (Kr.below (g := g) ((Below.refl w2.heap.size w2).drew))
      replace B2 := B2.drew
      go_region_held3 (fun w' => w'.cell? ⟨kr, 1, none⟩ = some (.int .i64 r.type) ∧ w'.cell? ⟨kr, 2, none⟩ = some (.int .i64 r.cls) ∧ w'.cell? ⟨kr, 3, none⟩ = some (.int .i64 r.ttl) ∧ w'.cell? ⟨kr, 4, none⟩ = some (.string r.data))
        (first | with_reducible exact ⟨c1, c2, c3, c4⟩ | with_reducible exact ⟨j1, j2, j3, j4⟩ | (go_keep; done))
        (first
          | (go_at_call 41; with_reducible refine (rbe2 r.type _).mono ?_; rintro e w5 ⟨rfl, Bx⟩; replace p2 := blk_below p2 Bx; replace R2 := R2.below Bx; replace K2 := K2.trans (Kr.below Bx); replace B2 := B2.trans (Bx.mono (HBS.out _ B2)); clear Bx; (try clear j1 j2 j3 j4 m1 m2 m3 m4); have j1 : w5.cell? ⟨kr, 1, none⟩ = some (.int .i64 r.type) := (blk_cell p2 1).trans rfl; have j2 : w5.cell? ⟨kr, 2, none⟩ = some (.int .i64 r.cls) := (blk_cell p2 2).trans rfl; have j3 : w5.cell? ⟨kr, 3, none⟩ = some (.int .i64 r.ttl) := (blk_cell p2 3).trans rfl; have j4 : w5.cell? ⟨kr, 4, none⟩ = some (.string r.data) := (blk_cell p2 4).trans rfl; have m1 := World.new_ne w5 ⟨kr, 1, none⟩ j1; have m2 := World.new_ne w5 ⟨kr, 2, none⟩ j2; have m3 := World.new_ne w5 ⟨kr, 3, none⟩ j3; have m4 := World.new_ne w5 ⟨kr, 4, none⟩ j4)
          | (go_at_call 41; with_reducible refine (rbe2 r.cls _).mono ?_; rintro e w5 ⟨rfl, Bx⟩; replace p2 := blk_below p2 Bx; replace R2 := R2.below Bx; replace K2 := K2.trans (Kr.below Bx); replace B2 := B2.trans (Bx.mono (HBS.out _ B2)); clear Bx; (try clear j1 j2 j3 j4 m1 m2 m3 m4); have j1 : w5.cell? ⟨kr, 1, none⟩ = some (.int .i64 r.type) := (blk_cell p2 1).trans rfl; have j2 : w5.cell? ⟨kr, 2, none⟩ = some (.int .i64 r.cls) := (blk_cell p2 2).trans rfl; have j3 : w5.cell? ⟨kr, 3, none⟩ = some (.int .i64 r.ttl) := (blk_cell p2 3).trans rfl; have j4 : w5.cell? ⟨kr, 4, none⟩ = some (.string r.data) := (blk_cell p2 4).trans rfl; have m1 := World.new_ne w5 ⟨kr, 1, none⟩ j1; have m2 := World.new_ne w5 ⟨kr, 2, none⟩ j2; have m3 := World.new_ne w5 ⟨kr, 3, none⟩ j3; have m4 := World.new_ne w5 ⟨kr, 4, none⟩ j4)
          | (go_at_call 41; with_reducible refine (rbe4 r.ttl _).mono ?_; rintro e w5 ⟨rfl, Bx⟩; replace p2 := blk_below p2 Bx; replace R2 := R2.below Bx; replace K2 := K2.trans (Kr.below Bx); replace B2 := B2.trans (Bx.mono (HBS.out _ B2)); clear Bx; (try clear j1 j2 j3 j4 m1 m2 m3 m4); have j1 : w5.cell? ⟨kr, 1, none⟩ = some (.int .i64 r.type) := (blk_cell p2 1).trans rfl; have j2 : w5.cell? ⟨kr, 2, none⟩ = some (.int .i64 r.cls) := (blk_cell p2 2).trans rfl; have j3 : w5.cell? ⟨kr, 3, none⟩ = some (.int .i64 r.ttl) := (blk_cell p2 3).trans rfl; have j4 : w5.cell? ⟨kr, 4, none⟩ = some (.string r.data) := (blk_cell p2 4).trans rfl; have m1 := World.new_ne w5 ⟨kr, 1, none⟩ j1; have m2 := World.new_ne w5 ⟨kr, 2, none⟩ j2; have m3 := World.new_ne w5 ⟨kr, 3, none⟩ j3; have m4 := World.new_ne w5 ⟨kr, 4, none⟩ j4)
          | (go_at_call 41; with_reducible refine (rbe2 (r.data.size : Int) _).mono ?_; rintro e w5 ⟨rfl, Bx⟩; replace p2 := blk_below p2 Bx; replace R2 := R2.below Bx; replace K2 := K2.trans (Kr.below Bx); replace B2 := B2.trans (Bx.mono (HBS.out _ B2)); clear Bx; (try clear j1 j2 j3 j4 m1 m2 m3 m4); have j1 : w5.cell? ⟨kr, 1, none⟩ = some (.int .i64 r.type) := (blk_cell p2 1).trans rfl; have j2 : w5.cell? ⟨kr, 2, none⟩ = some (.int .i64 r.cls) := (blk_cell p2 2).trans rfl; have j3 : w5.cell? ⟨kr, 3, none⟩ = some (.int .i64 r.ttl) := (blk_cell p2 3).trans rfl; have j4 : w5.cell? ⟨kr, 4, none⟩ = some (.string r.data) := (blk_cell p2 4).trans rfl; have m1 := World.new_ne w5 ⟨kr, 1, none⟩ j1; have m2 := World.new_ne w5 ⟨kr, 2, none⟩ j2; have m3 := World.new_ne w5 ⟨kr, 3, none⟩ j3; have m4 := World.new_ne w5 ⟨kr, 4, none⟩ j4)
          | (go_at_call 39; with_reducible refine (rrawLong R2 _ HC2.out).mono ?_; rintro e w6 ⟨rfl, rfl⟩))
      go_wp2_with fail
      go_ret
      exact ⟨B2, K2, .inl ⟨HL.out, rfl⟩⟩
    · have HE := Lib.hid (rSt_short (S := S) (m := mOf ms) (r := r) hn hl2)
      have HC : (S ++ outN (mOf ms) r.name).size + (p16 r.type ++ p16 r.cls ++ p32 r.ttl ++ p16 (r.data.size : Int) ++ r.data).size ≤ 4096 := by omega
      have HC2 := Lib.hid HC
      have HSM := Lib.hid (hsm.put r.name S.size (by omega))
      have HM := Lib.hid (mOf_put ms r.name S.size)
      clear HC zT zO hl2 hl
      have za := p16_size r.type
      have zb := p16_size r.cls
      have zc := p32_size r.ttl
      have zd := p16_size (r.data.size : Int)
      have nn0 : ¬ 9223372036854775807 < (p16 r.type).size + (p16 r.cls).size := by (try simp only [ByteArray.size_append]); omega
      have nn1 : ¬ 9223372036854775807 < (p16 r.type ++ p16 r.cls).size + (p32 r.ttl).size := by (try simp only [ByteArray.size_append]); omega
      have nn2 : ¬ 9223372036854775807 < (p16 r.type).size + (p16 r.cls).size + (p32 r.ttl).size := by (try simp only [ByteArray.size_append]); omega
      have nn3 : ¬ 9223372036854775807 < (p16 r.type ++ p16 r.cls ++ p32 r.ttl).size + (p16 (r.data.size : Int)).size := by (try simp only [ByteArray.size_append]); omega
      have nn4 : ¬ 9223372036854775807 < (p16 r.type).size + (p16 r.cls).size + (p32 r.ttl).size + (p16 (r.data.size : Int)).size := by (try simp only [ByteArray.size_append]); omega
      have nn5 : ¬ 9223372036854775807 < (p16 r.type ++ p16 r.cls ++ p32 r.ttl ++ p16 (r.data.size : Int)).size + (r.data).size := by (try simp only [ByteArray.size_append]); omega
      have nn6 : ¬ 9223372036854775807 < (p16 r.type).size + (p16 r.cls).size + (p32 r.ttl).size + (p16 (r.data.size : Int)).size + (r.data).size := by (try simp only [ByteArray.size_append]); omega
      clear za zb zc zd
      go_upto_region 3 with (fail)
      have c1 : w2.cell? ⟨kr, 1, none⟩ = some (.int .i64 r.type) := (blk_cell p2 1).trans rfl
      have c2 : w2.cell? ⟨kr, 2, none⟩ = some (.int .i64 r.cls) := (blk_cell p2 2).trans rfl
      have c3 : w2.cell? ⟨kr, 3, none⟩ = some (.int .i64 r.ttl) := (blk_cell p2 3).trans rfl
      have c4 : w2.cell? ⟨kr, 4, none⟩ = some (.string r.data) := (blk_cell p2 4).trans rfl
      have nw1 := World.new_ne w2 ⟨kr, 1, none⟩ c1
      have nw2 := World.new_ne w2 ⟨kr, 2, none⟩ c2
      have nw3 := World.new_ne w2 ⟨kr, 3, none⟩ c3
      have nw4 := World.new_ne w2 ⟨kr, 4, none⟩ c4
      replace p2 := blk_below p2 ((Below.refl w2.heap.size w2).drew)
      replace R2 := R2.below ((Below.refl w2.heap.size w2).drew)
      replace K2 := K2.trans (Kr.below (g := g) ((Below.refl w2.heap.size w2).drew))
      replace B2 := B2.drew
      go_region_held3 (fun w' => w'.cell? ⟨kr, 1, none⟩ = some (.int .i64 r.type) ∧ w'.cell? ⟨kr, 2, none⟩ = some (.int .i64 r.cls) ∧ w'.cell? ⟨kr, 3, none⟩ = some (.int .i64 r.ttl) ∧ w'.cell? ⟨kr, 4, none⟩ = some (.string r.data))
        (first | with_reducible exact ⟨c1, c2, c3, c4⟩ | with_reducible exact ⟨j1, j2, j3, j4⟩ | (go_keep; done))
        (first
          | (go_at_call 41; with_reducible refine (rbe2 r.type _).mono ?_; rintro e w5 ⟨rfl, Bx⟩; replace p2 := blk_below p2 Bx; replace R2 := R2.below Bx; replace K2 := K2.trans (Kr.below Bx); replace B2 := B2.trans (Bx.mono (HBS.out _ B2)); clear Bx; (try clear j1 j2 j3 j4 m1 m2 m3 m4); have j1 : w5.cell? ⟨kr, 1, none⟩ = some (.int .i64 r.type) := (blk_cell p2 1).trans rfl; have j2 : w5.cell? ⟨kr, 2, none⟩ = some (.int .i64 r.cls) := (blk_cell p2 2).trans rfl; have j3 : w5.cell? ⟨kr, 3, none⟩ = some (.int .i64 r.ttl) := (blk_cell p2 3).trans rfl; have j4 : w5.cell? ⟨kr, 4, none⟩ = some (.string r.data) := (blk_cell p2 4).trans rfl; have m1 := World.new_ne w5 ⟨kr, 1, none⟩ j1; have m2 := World.new_ne w5 ⟨kr, 2, none⟩ j2; have m3 := World.new_ne w5 ⟨kr, 3, none⟩ j3; have m4 := World.new_ne w5 ⟨kr, 4, none⟩ j4)
          | (go_at_call 41; with_reducible refine (rbe2 r.cls _).mono ?_; rintro e w5 ⟨rfl, Bx⟩; replace p2 := blk_below p2 Bx; replace R2 := R2.below Bx; replace K2 := K2.trans (Kr.below Bx); replace B2 := B2.trans (Bx.mono (HBS.out _ B2)); clear Bx; (try clear j1 j2 j3 j4 m1 m2 m3 m4); have j1 : w5.cell? ⟨kr, 1, none⟩ = some (.int .i64 r.type) := (blk_cell p2 1).trans rfl; have j2 : w5.cell? ⟨kr, 2, none⟩ = some (.int .i64 r.cls) := (blk_cell p2 2).trans rfl; have j3 : w5.cell? ⟨kr, 3, none⟩ = some (.int .i64 r.ttl) := (blk_cell p2 3).trans rfl; have j4 : w5.cell? ⟨kr, 4, none⟩ = some (.string r.data) := (blk_cell p2 4).trans rfl; have m1 := World.new_ne w5 ⟨kr, 1, none⟩ j1; have m2 := World.new_ne w5 ⟨kr, 2, none⟩ j2; have m3 := World.new_ne w5 ⟨kr, 3, none⟩ j3; have m4 := World.new_ne w5 ⟨kr, 4, none⟩ j4)
          | (go_at_call 41; with_reducible refine (rbe4 r.ttl _).mono ?_; rintro e w5 ⟨rfl, Bx⟩; replace p2 := blk_below p2 Bx; replace R2 := R2.below Bx; replace K2 := K2.trans (Kr.below Bx); replace B2 := B2.trans (Bx.mono (HBS.out _ B2)); clear Bx; (try clear j1 j2 j3 j4 m1 m2 m3 m4); have j1 : w5.cell? ⟨kr, 1, none⟩ = some (.int .i64 r.type) := (blk_cell p2 1).trans rfl; have j2 : w5.cell? ⟨kr, 2, none⟩ = some (.int .i64 r.cls) := (blk_cell p2 2).trans rfl; have j3 : w5.cell? ⟨kr, 3, none⟩ = some (.int .i64 r.ttl) := (blk_cell p2 3).trans rfl; have j4 : w5.cell? ⟨kr, 4, none⟩ = some (.string r.data) := (blk_cell p2 4).trans rfl; have m1 := World.new_ne w5 ⟨kr, 1, none⟩ j1; have m2 := World.new_ne w5 ⟨kr, 2, none⟩ j2; have m3 := World.new_ne w5 ⟨kr, 3, none⟩ j3; have m4 := World.new_ne w5 ⟨kr, 4, none⟩ j4)
          | (go_at_call 41; with_reducible refine (rbe2 (r.data.size : Int) _).mono ?_; rintro e w5 ⟨rfl, Bx⟩; replace p2 := blk_below p2 Bx; replace R2 := R2.below Bx; replace K2 := K2.trans (Kr.below Bx); replace B2 := B2.trans (Bx.mono (HBS.out _ B2)); clear Bx; (try clear j1 j2 j3 j4 m1 m2 m3 m4); have j1 : w5.cell? ⟨kr, 1, none⟩ = some (.int .i64 r.type) := (blk_cell p2 1).trans rfl; have j2 : w5.cell? ⟨kr, 2, none⟩ = some (.int .i64 r.cls) := (blk_cell p2 2).trans rfl; have j3 : w5.cell? ⟨kr, 3, none⟩ = some (.int .i64 r.ttl) := (blk_cell p2 3).trans rfl; have j4 : w5.cell? ⟨kr, 4, none⟩ = some (.string r.data) := (blk_cell p2 4).trans rfl; have m1 := World.new_ne w5 ⟨kr, 1, none⟩ j1; have m2 := World.new_ne w5 ⟨kr, 2, none⟩ j2; have m3 := World.new_ne w5 ⟨kr, 3, none⟩ j3; have m4 := World.new_ne w5 ⟨kr, 4, none⟩ j4)
          | (go_at_call 39; with_reducible refine (rrawOk R2 _ HC2.out).mono ?_; rintro e w5 ⟨rfl, R6, B6, K6⟩; replace p2 := (K6.block kr (blk_lt p2) (Ne.symm hgr) (fun cs q => by rw [p2] at q; injection q with q; injection q with _ q; exact absurd q (by decide))).trans p2; (try clear j1 j2 j3 j4 m1 m2 m3 m4); have j1 : w5.cell? ⟨kr, 1, none⟩ = some (.int .i64 r.type) := (blk_cell p2 1).trans rfl; have j2 : w5.cell? ⟨kr, 2, none⟩ = some (.int .i64 r.cls) := (blk_cell p2 2).trans rfl; have j3 : w5.cell? ⟨kr, 3, none⟩ = some (.int .i64 r.ttl) := (blk_cell p2 3).trans rfl; have j4 : w5.cell? ⟨kr, 4, none⟩ = some (.string r.data) := (blk_cell p2 4).trans rfl; replace R2 := R6; replace B2 := B2.trans B6; replace K2 := K2.trans K6; clear R6 B6 K6))
      go_wp2_with fail
      go_ret
      refine ⟨B2, K2, .inr ⟨by rw [HE.out], rfl, v2, _, ?_, by rw [HE.out]; exact HM.out, by rw [HE.out]; exact HSM.out⟩⟩
      rw [HE.out]
      have e : S ++ outN (mOf ms) r.name ++ (p16 r.type ++ p16 r.cls ++ p32 r.ttl ++ p16 (r.data.size : Int) ++ r.data) = S ++ outN (mOf ms) r.name ++ (p16 r.type ++ p16 r.cls) ++ (p32 r.ttl ++ p16 (r.data.size : Int) ++ r.data) := by simp only [ByteArray.append_assoc]
      rw [e] at R2
      exact R2
end
end Go.Proofs.Ytjklgdpffmaamaa.Wm

namespace Go.Proofs.Ytjklgdpffmaamaa.Wm
open Go.RowKit Go.PlainAid Go.Maps Go.Proofs.Ytjklgdpffmaamaa.Base Go.Proofs.Ytjklgdpffmaamaa.Oct Go.Proofs.Ytjklgdpffmaamaa.Nm Go.Proofs.Ytjklgdpffmaamaa.Wr
open Go.Proofs.YtjklgdpffmaamaaW.PrintWords (blk_cell blk_below blk_put blk_frozen blk_ne blk_new blk_lt blk_grown own_nil)
set_option linter.unusedVariables false
set_option linter.unusedSimpArgs false
theorem may_small {r : Rr} (h : rMay r = true) : nameB r.name = true ∧ r.data.size ≤ 65535 := by
  unfold rMay at h
  simp only [Bool.and_eq_true] at h
  refine ⟨h.1.1.1.1, ?_⟩
  have h := h.2
  unfold Rd.mayD at h
  by_cases c1 : r.type < 1
  · rw [if_pos c1] at h; cases h
  rw [if_neg c1] at h
  by_cases c2 : 65535 < r.type
  · rw [if_pos c2] at h; cases h
  rw [if_neg c2] at h
  by_cases c3 : 65535 < r.data.size
  · rw [if_pos c3] at h; cases h
  · omega
theorem qSt_long {S : ByteArray} {m : ByteArray → Option Int} {n : ByteArray} {t c : Int} (h : 4096 < S.size + (outN m n).size + 4) : (qSt ⟨S, m, false⟩ n t c).lg = true := by
  cases hl : (qSt ⟨S, m, false⟩ n t c).lg with
  | true => rfl
  | false =>
    have : S.size + (outN m n).size + 4 ≤ 4096 := (qSt_ok hl).2.2.1
    omega
theorem qSt_short {S : ByteArray} {m : ByteArray → Option Int} {n : ByteArray} {t c : Int} (hn : nameB n = true) (h : ¬ 4096 < S.size + (outN m n).size + 4) : (qSt ⟨S, m, false⟩ n t c) = ⟨S ++ outN m n ++ (p16 t ++ p16 c), putN m n S.size, false⟩ := by
  have z4 : (p16 t ++ p16 c).size = 4 := by rw [ByteArray.size_append, p16_size, p16_size]
  unfold qSt nameSt
  rw [if_pos hn, if_neg (by show ¬ 4096 < S.size + (outN m n).size; omega)]
  unfold rawSt
  have c1 : ¬ 4096 < (S ++ outN m n).size + (p16 t ++ p16 c).size := by rw [ByteArray.size_append, z4]; omega
  simp only [if_neg c1]
/-- The writer's state behind the questions, and behind so many parts. -/
def stQ (m : MsgV) : St := m.qs.foldl qStep (st0 (hStr m))
def stP (m : MsgV) (p : Nat) : St := ([m.an, m.ns, m.ar].take p).foldl (fun st l => l.foldl rSt st) (stQ m)
theorem stP_3 (m : MsgV) : stP m 3 = putEnd m := rfl
theorem stP_next (m : MsgV) (p : Nat) (hp : p < 3) : stP m (p + 1) = (rows3 m p).2.1.foldl rSt (stP m p) := by
  obtain rfl | rfl | rfl : p = 0 ∨ p = 1 ∨ p = 2 := by omega
  all_goals rfl
theorem end_of_P {m : MsgV} : ∀ (d p : Nat), p + d = 3 → (stP m p).lg = true → (putEnd m).lg = true := by
  intro d
  induction d with
  | zero => intro p h hl; obtain rfl : p = 3 := by omega
            rw [← stP_3]; exact hl
  | succ d ih =>
    intro p h hl
    refine ih (p + 1) (by omega) ?_
    rw [stP_next m p (by omega)]
    cases e : ((rows3 m p).2.1.foldl rSt (stP m p)).lg with
    | true => rfl
    | false => rw [foldR_lg _ _ e] at hl; cases hl
theorem end_of_R {m : MsgV} {p : Nat} (hp : p < 3) {j : Nat} (h : (((rows3 m p).2.1.take j).foldl rSt (stP m p)).lg = true) : (putEnd m).lg = true := by
  refine end_of_P (3 - (p + 1)) (p + 1) (by omega) ?_
  rw [stP_next m p hp]
  cases e : ((rows3 m p).2.1.foldl rSt (stP m p)).lg with
  | true => rfl
  | false =>
    rw [← List.take_append_drop j (rows3 m p).2.1, List.foldl_append] at e
    rw [foldR_lg _ _ e] at h; cases h
theorem end_of_Q {m : MsgV} {j : Nat} (h : ((m.qs.take j).foldl qStep (st0 (hStr m))).lg = true) : (putEnd m).lg = true := by
  refine end_of_P 3 0 rfl ?_
  show (m.qs.foldl qStep (st0 (hStr m))).lg = true
  cases e : (m.qs.foldl qStep (st0 (hStr m))).lg with
  | true => rfl
  | false =>
    rw [← List.take_append_drop j m.qs, List.foldl_append] at e
    rw [foldQ_lg _ _ e] at h; cases h
theorem put_long {m : MsgV} (hok : putOk m = true) (h : (putEnd m).lg = true) : putS m = ⟨#[]⟩ ∧ putE m = 701 := by
  unfold putS putE
  rw [if_pos hok, if_pos hok, if_pos h, if_pos h]
  exact ⟨rfl, rfl⟩
theorem put_bad {m : MsgV} (h : putOk m = false) : putS m = ⟨#[]⟩ ∧ putE m = 700 := by
  unfold putS putE
  rw [if_neg (by rw [h]; simp), if_neg (by rw [h]; simp)]
  exact ⟨rfl, rfl⟩
theorem put_good {m : MsgV} (hok : putOk m = true) (h : (putEnd m).lg = false) : putS m = (putEnd m).S ∧ putE m = 0 := by
  unfold putS putE
  rw [if_pos hok, if_pos hok, if_neg (by rw [h]; simp), if_neg (by rw [h]; simp)]
  exact ⟨rfl, rfl⟩
theorem ok_hdr {m : MsgV} (h : putOk m = true) : Hd.mayB m.h m.qs.length m.an.length m.ns.length m.ar.length = true ∧ hStr m = m.h.putS m.qs.length m.an.length m.ns.length m.ar.length ∧ (hStr m).size = 12 := by
  unfold putOk at h
  rw [Bool.and_eq_true] at h
  have h0 : Hd.mayB m.h m.qs.length m.an.length m.ns.length m.ar.length = true := h.1
  have e : hStr m = m.h.putS m.qs.length m.an.length m.ns.length m.ar.length := by
    unfold hStr Hd.wroteS
    exact if_pos h0
  exact ⟨h0, e, by rw [e, Hd.putS_size]⟩
theorem st0_is {hS : ByteArray} (h : hS.size = 12) : st0 hS = ⟨hS, fun _ => none, false⟩ := by
  unfold st0 rawSt
  rw [if_neg (by show ¬ 4096 < 0 + hS.size; omega)]
  rw [show (⟨#[]⟩ : ByteArray) ++ hS = hS from ByteArray.empty_append]
theorem ok_all {m : MsgV} (h : putOk m = true) : (∀ q ∈ m.qs, qMay q = true) ∧ (∀ p, p < 3 → ∀ r ∈ (rows3 m p).2.1, rMay r = true) ∧ m.qs.length ≤ 64 ∧ ∀ p, p < 3 → (rows3 m p).2.1.length ≤ 64 := by
  unfold putOk at h
  simp only [Bool.and_eq_true] at h
  obtain ⟨_, h1⟩ := h
  have hl := fits_len h1
  unfold fitsB at h1
  simp only [Bool.and_eq_true, List.all_eq_true] at h1
  obtain ⟨⟨⟨⟨_, a⟩, _, b⟩, _, c⟩, _, d⟩ := h1
  refine ⟨a, fun p hp => ?_, hl.1, fun p hp => ?_⟩
  · obtain rfl | rfl | rfl : p = 0 ∨ p = 1 ∨ p = 2 := by omega
    · exact b
    · exact c
    · exact d
  · obtain rfl | rfl | rfl : p = 0 ∨ p = 1 ∨ p = 2 := by omega
    · exact hl.2.1
    · exact hl.2.2.1
    · exact hl.2.2.2
theorem take_getD {α : Type} {l : List α} {d : α} {j : Nat} (h : j < l.length) : l.take (j + 1) = l.take j ++ [l.getD j d] ∧ l.getD j d ∈ l := by
  rw [List.take_succ_eq_append_getElem h, List.getD_eq_getElem?_getD, List.getElem?_eq_getElem h]
  exact ⟨rfl, List.getElem_mem h⟩
set_option maxHeartbeats 8000000 in
set_option maxRecDepth 100000 in
theorem rputc (m : MsgV) (w : World) (hm : m.Lies w) : Calls Try.prog 19 #[.agg m.cells] w fun e w' => e = .returned (.tuple #[.string (putS m), .int .i64 (putE m)]) ∧ Below w.heap.size w w' := by
  have B0 : Below w.heap.size w (w.alloc (.cells m.cells 27)) := (Below.refl _ _).alloc (Nat.le_refl _) _
  have hb := blk_new w (.cells m.cells 27)
  have hm1 := hm.below B0
  have km := rmayc m (w.alloc (.cells m.cells 27)) hm1
  go_enter Try.func19, Try.ntmps19
  go_wp2_with fail
  refine km.mono ?_
  rintro e w2 ⟨rfl, B1⟩
  replace hb := blk_below hb B1
  replace hm1 := hm1.below B1
  replace B0 := B0.trans (B1.mono B0.size)
  clear km B1 hm
  have sB0 := B0.size
  cases hok : putOk m with
  | false =>
    have HP := Lib.hid (put_bad hok)
    clear hok
    go_wp2_with fail
    go_ret2
    exact ⟨by rw [HP.out.1, HP.out.2]; first | done | rfl, B0⟩
  | true =>
  obtain ⟨a0, a1, a2⟩ := ok_hdr hok
  obtain ⟨b0, b1, b2, b3⟩ := ok_all hok
  have HOK := Lib.hid hok
  have HQA := Lib.hid b0
  have HRA := Lib.hid b1
  have HRL := Lib.hid b3
  have HST := Lib.hid (st0_is a2)
  have HS12 := Lib.hid a2
  clear hok b0 b1 b3 a2
  have c0 : ∀ i v, m.cells[i]? = some v → w2.cell? ⟨w.heap.size, i, none⟩ = some v := fun i v h => (blk_cell hb i).trans h
  have Bg : Below w2.heap.size w2 (w2.alloc (.cells #[.string ⟨#[]⟩, .slice none 0 0] 78)) := (Below.refl _ _).alloc (Nat.le_refl _) _
  have pg := blk_new w2 (.cells #[.string ⟨#[]⟩, .slice none 0 0] 78)
  have hb3 := blk_below hb Bg
  go_upto_region 4 with (fail)
  generalize w2.alloc (.cells #[.string ⟨#[]⟩, .slice none 0 0] 78) = w3 at *
  obtain ⟨g, hg⟩ : ∃ g, g = w2.heap.size := ⟨_, rfl⟩
  rw [← hg] at pg ⊢
  have R3 : Rf w2.heap.size w3 g (.slice none 0 0) ⟨#[]⟩ [] := ⟨by omega, pg, own_nil _ _ _ _, by decide, by decide⟩
  have HG := Lib.hid hg
  have HB2 := Lib.hid hb
  clear hg pg c0 hb
  have c0 : w3.cell? ⟨w.heap.size, 0, none⟩ = some (.int .i64 m.h.id) := (blk_cell hb3 0).trans rfl
  have c1 : w3.cell? ⟨w.heap.size, 1, none⟩ = some (.bool m.h.qr) := (blk_cell hb3 1).trans rfl
  have c2 : w3.cell? ⟨w.heap.size, 2, none⟩ = some (.int .i64 m.h.op) := (blk_cell hb3 2).trans rfl
  have c3 : w3.cell? ⟨w.heap.size, 3, none⟩ = some (.bool m.h.aa) := (blk_cell hb3 3).trans rfl
  have c4 : w3.cell? ⟨w.heap.size, 4, none⟩ = some (.bool m.h.tc) := (blk_cell hb3 4).trans rfl
  have c5 : w3.cell? ⟨w.heap.size, 5, none⟩ = some (.bool m.h.rd) := (blk_cell hb3 5).trans rfl
  have c6 : w3.cell? ⟨w.heap.size, 6, none⟩ = some (.bool m.h.ra) := (blk_cell hb3 6).trans rfl
  have c7 : w3.cell? ⟨w.heap.size, 7, none⟩ = some (.int .i64 m.h.z) := (blk_cell hb3 7).trans rfl
  have c8 : w3.cell? ⟨w.heap.size, 8, none⟩ = some (.int .i64 m.h.rc) := (blk_cell hb3 8).trans rfl
  have c9 : w3.cell? ⟨w.heap.size, 9, none⟩ = some (.slice m.Aq m.qs.length m.cq) := (blk_cell hb3 9).trans rfl
  have c10 : w3.cell? ⟨w.heap.size, 10, none⟩ = some (.slice m.Aa m.an.length m.ca) := (blk_cell hb3 10).trans rfl
  have c11 : w3.cell? ⟨w.heap.size, 11, none⟩ = some (.slice m.An m.ns.length m.cn) := (blk_cell hb3 11).trans rfl
  have c12 : w3.cell? ⟨w.heap.size, 12, none⟩ = some (.slice m.Ar m.ar.length m.cr) := (blk_cell hb3 12).trans rfl
  have kh := Hd.rwrote m.h m.qs.length m.an.length m.ns.length m.ar.length w3
  rw [show Hd.wroteS m.h m.qs.length m.an.length m.ns.length m.ar.length = hStr m from rfl, show Hd.wroteE m.h m.qs.length m.an.length m.ns.length m.ar.length = 0 by unfold Hd.wroteE; rw [a0]; rfl] at kh
  clear a0 a1
  go_wp2_with fail
  refine kh.mono ?_
  rintro e w4 ⟨rfl, B4⟩
  have hb4 := blk_below hb3 B4
  have R4 := R3.below B4
  have BW := Bg.trans (B4.mono Bg.size)
  clear kh R3 B4 hb3 Bg c0 c1 c2 c3 c4 c5 c6 c7 c8 c9 c10 c11 c12
  go_wp2_with fail
  refine (rrawOk R4 (hStr m) (by rw [HS12.out]; decide)).mono ?_
  rintro e w5 ⟨rfl, R5, B5, K5⟩
  rw [show (⟨#[]⟩ : ByteArray) ++ hStr m = hStr m from ByteArray.empty_append] at R5
  replace BW := BW.trans B5
  clear R4 B5 K5 hb4
  have hq := hm1.q
  have hlq := hm1.lq
  have HM1 := Lib.hid hm1
  have c9 : w2.cell? ⟨w.heap.size, 9, none⟩ = some (.slice m.Aq m.qs.length m.cq) := (blk_cell HB2.out 9).trans rfl
  clear hm1
  go_wp2_with fail
  go_loopg [7] (m.qs.length + 1) (fun k v7 wr => ∃ j : Nat, v7 = .int .i64 j ∧ j + k = m.qs.length + 1 ∧ j ≤ m.qs.length ∧ Below w2.heap.size w2 wr ∧ ∃ v ms St, Rf w2.heap.size wr g v St ms ∧ (m.qs.take j).foldl qStep (st0 (hStr m)) = ⟨St, mOf ms, false⟩ ∧ Small (mOf ms))
  case atStart => exact ⟨0, rfl, by omega, by omega, BW, _, _, _, R5, HST.out, fun x t h => by cases h⟩
  case round =>
    obtain ⟨j, rfl, hk1, hk2, B, v, ms, St, R, hst, hsm⟩ := hrel
    have HSTJ := Lib.hid hst
    clear hst
    have sB := B.size
    have B00 := B0.trans (B.mono sB0)
    have d9 := bcell B c9
    by_cases hj : j < m.qs.length
    · have q0 : decide ((j : Int) < (m.qs.length : Int)) = true := by simp; omega
      obtain ⟨ad, eA, hat⟩ : ∃ ad, m.Aq = some ad ∧ ∀ j, j < m.qs.length → AtQ w2 (ad.add (j * 3)) (m.qs.getD j zQ) := by
        rcases hq with h | h
        · omega
        · exact h
      rw [eA] at d9
      clear eA
      have ha := (hat j hj).below B
      obtain ⟨htk, hmem⟩ := take_getD (d := zQ) hj
      have hqm := HQA.out _ hmem
      have HNX := Lib.hid (show (m.qs.take (j + 1)).foldl qStep (st0 (hStr m)) = qStep ⟨St, mOf ms, false⟩ (m.qs.getD j zQ) by rw [htk, List.foldl_append, HSTJ.out]; rfl)
      clear htk hmem hat
      generalize m.qs.getD j zQ = x at *
      obtain ⟨d0, d1, d2⟩ := ha
      have hn : nameB x.name = true := by
        unfold qMay at hqm
        simp only [Bool.and_eq_true] at hqm
        exact hqm.1.1
      clear hqm
      have Bq : Below wr.heap.size wr (wr.alloc (.cells #[.string x.name, .int .i64 x.type, .int .i64 x.cls] 40)) := (Below.refl _ _).alloc (Nat.le_refl _) _
      have pq := blk_new wr (.cells #[.string x.name, .int .i64 x.type, .int .i64 x.cls] 40)
      go_upto_region 10 with (fail)
      have hgr : g ≠ wr.heap.size := Nat.ne_of_lt (blk_lt R.blk)
      have R1 := R.below Bq
      replace B := B.trans (Bq.mono sB)
      have hx := R.len
      have ho := outN_size (mOf ms) x.name hn
      have hsn := name_size hn
      clear R Bq d0 d1 d2 d9 hq hlq c9 R5
      generalize wr.alloc (.cells #[.string x.name, .int .i64 x.type, .int .i64 x.cls] 40) = w6 at *
      generalize wr.heap.size = kx at *
      have zT : (p16 x.type ++ p16 x.cls).size = 4 := by rw [ByteArray.size_append, p16_size, p16_size]
      have zO : (St ++ outN (mOf ms) x.name).size = St.size + (outN (mOf ms) x.name).size := ByteArray.size_append
      have nn0 : ¬ 9223372036854775807 < (p16 x.type).size + (p16 x.cls).size := by rw [p16_size, p16_size]; decide
      have c1 : w6.cell? ⟨kx, 0, none⟩ = some (.string x.name) := (blk_cell pq 0).trans rfl
      have c2 : w6.cell? ⟨kx, 1, none⟩ = some (.int .i64 x.type) := (blk_cell pq 1).trans rfl
      have c3 : w6.cell? ⟨kx, 2, none⟩ = some (.int .i64 x.cls) := (blk_cell pq 2).trans rfl
      have nw1 := World.new_ne w6 ⟨kx, 0, none⟩ c1
      have nw2 := World.new_ne w6 ⟨kx, 1, none⟩ c2
      have nw3 := World.new_ne w6 ⟨kx, 2, none⟩ c3
      replace pq := blk_below pq ((Below.refl w6.heap.size w6).drew)
      replace R1 := R1.below ((Below.refl w6.heap.size w6).drew)
      replace B := B.drew
      by_cases hl : 4096 < St.size + (outN (mOf ms) x.name).size
      · have HL := Lib.hid (put_long HOK.out (end_of_Q (j := j + 1) (by rw [HNX.out]; exact qSt_long (by omega))))
        have HLL := Lib.hid hl
        clear hl zT zO
        refine wp_region_held_drew (S := fun w' => w'.cell? ⟨kx, 0, none⟩ = some (.string x.name)) (by kernel_rfl) ((blk_cell pq 0).trans rfl) (fun hHeld => ?_)
        refine wpAnyH_take (i := 0) (v := ?_) rfl (by kernel_rfl) (by kernel_rfl) (by kernel_rfl) (fun _ _ _ h => h) (Or.inl ⟨by rfl, ?_⟩) (by assumption) ?_
        rotate_left 1
        · intro w hSw; (try dsimp only at hSw); (try simp only [List.getElem_toArray, List.getElem_cons_succ, List.getElem_cons_zero]); go_simp; (try with_reducible rfl)
        (try simp only [Act.put, List.getElem_toArray, List.getElem_cons_succ, List.getElem_cons_zero, List.setIfInBounds_toArray, List.set_cons_zero, List.set_cons_succ])
        refine wpAnyH_take (i := 1) (v := ?_) rfl (by kernel_rfl) (by kernel_rfl) (by kernel_rfl) (fun _ _ _ h => h) (Or.inl ⟨by rfl, ?_⟩) (by assumption) ?_
        rotate_left 1
        · intro w hSw; (try dsimp only at hSw); (try simp only [List.getElem_toArray, List.getElem_cons_succ, List.getElem_cons_zero]); go_simp; (try with_reducible rfl)
        (try simp only [Act.put, List.getElem_toArray, List.getElem_cons_succ, List.getElem_cons_zero, List.setIfInBounds_toArray, List.set_cons_zero, List.set_cons_succ])
        refine wpAnyH_take (i := 2) (v := ?_) rfl (by kernel_rfl) (by kernel_rfl) (by kernel_rfl) (fun _ _ _ h => h) (Or.inl ⟨by rfl, ?_⟩) (by assumption) ?_
        rotate_left 1
        · intro w hSw; (try dsimp only at hSw); (try simp only [List.getElem_toArray, List.getElem_cons_succ, List.getElem_cons_zero]); go_simp; (try with_reducible rfl)
        (try simp only [Act.put, List.getElem_toArray, List.getElem_cons_succ, List.getElem_cons_zero, List.setIfInBounds_toArray, List.set_cons_zero, List.set_cons_succ])
        refine wpAnyH_ready (rs := [3]) (by kernel_rfl) (by simp) ?_
        refine AllReadyH.cons rfl ?_ AllReadyH.nil
        intro K hK
        (try simp only [List.getElem_toArray, List.getElem_cons_succ, List.getElem_cons_zero])
        go_simp
        go_at_call 40
        with_reducible refine (rname R1 x.name hn hsm).mono ?_
        rintro e w7 hh
        rw [if_pos HLL.out] at hh
        obtain ⟨rfl, R2, B2, K2⟩ := hh
        replace pq := (K2.block kx (blk_lt pq) (Ne.symm hgr) (fun cs q => by rw [pq] at q; injection q with q; injection q with _ q; exact absurd q (by decide))).trans pq
        go_wp2_with fail
        refine hK.out _ _ ((blk_cell pq 0).trans rfl) (fun hHeld => ?_)
        clear hK K
        (try simp only [Act.put, List.setIfInBounds_toArray, List.set_cons_zero, List.set_cons_succ])
        refine wpAnyH_take (i := 4) (v := ?_) rfl (by kernel_rfl) (by kernel_rfl) (by kernel_rfl) (fun _ _ _ h => h) (Or.inl ⟨by rfl, ?_⟩) (by assumption) ?_
        rotate_left 1
        · intro w hSw; (try dsimp only at hSw); (try simp only [List.getElem_toArray, List.getElem_cons_succ, List.getElem_cons_zero]); go_simp; (try with_reducible rfl)
        (try simp only [Act.put, List.getElem_toArray, List.getElem_cons_succ, List.getElem_cons_zero, List.setIfInBounds_toArray, List.set_cons_zero, List.set_cons_succ])
        refine wpAnyH_take (i := 5) (v := ?_) rfl (by kernel_rfl) (by kernel_rfl) (by kernel_rfl) (fun _ _ _ h => h) (Or.inl ⟨by rfl, ?_⟩) (by assumption) ?_
        rotate_left 1
        · intro w hSw; (try dsimp only at hSw); (try simp only [List.getElem_toArray, List.getElem_cons_succ, List.getElem_cons_zero]); go_simp; (try with_reducible rfl)
        (try simp only [Act.put, List.getElem_toArray, List.getElem_cons_succ, List.getElem_cons_zero, List.setIfInBounds_toArray, List.set_cons_zero, List.set_cons_succ])
        refine wpAnyH_take (i := 6) (v := undef) rfl (by kernel_rfl) (by kernel_rfl) (by kernel_rfl) (fun _ _ _ h => h) (Or.inr ⟨by rfl, rfl⟩) (by assumption) ?_
        (try simp only [Act.put, List.getElem_toArray, List.getElem_cons_succ, List.getElem_cons_zero, List.setIfInBounds_toArray, List.set_cons_zero, List.set_cons_succ])
        refine wpAnyH_take (i := 7) (v := undef) rfl (by kernel_rfl) (by kernel_rfl) (by kernel_rfl) (fun _ _ _ h => h) (Or.inr ⟨by rfl, rfl⟩) (by assumption) ?_
        (try simp only [Act.put, List.getElem_toArray, List.getElem_cons_succ, List.getElem_cons_zero, List.setIfInBounds_toArray, List.set_cons_zero, List.set_cons_succ])
        refine wpAnyH_take (i := 8) (v := undef) rfl (by kernel_rfl) (by kernel_rfl) (by kernel_rfl) (fun _ _ _ h => h) (Or.inr ⟨by rfl, rfl⟩) (by assumption) ?_
        (try simp only [Act.put, List.getElem_toArray, List.getElem_cons_succ, List.getElem_cons_zero, List.setIfInBounds_toArray, List.set_cons_zero, List.set_cons_succ])
        refine wpAnyH_take (i := 9) (v := undef) rfl (by kernel_rfl) (by kernel_rfl) (by kernel_rfl) (fun _ _ _ h => h) (Or.inr ⟨by rfl, rfl⟩) (by assumption) ?_
        (try simp only [Act.put, List.getElem_toArray, List.getElem_cons_succ, List.getElem_cons_zero, List.setIfInBounds_toArray, List.set_cons_zero, List.set_cons_succ])
        refine wpAnyH_take (i := 10) (v := undef) rfl (by kernel_rfl) (by kernel_rfl) (by kernel_rfl) (fun _ _ _ h => h) (Or.inr ⟨by rfl, rfl⟩) (by assumption) ?_
        (try simp only [Act.put, List.getElem_toArray, List.getElem_cons_succ, List.getElem_cons_zero, List.setIfInBounds_toArray, List.set_cons_zero, List.set_cons_succ])
        refine wpAnyH_take (i := 11) (v := undef) rfl (by kernel_rfl) (by kernel_rfl) (by kernel_rfl) (fun _ _ _ h => h) (Or.inr ⟨by rfl, rfl⟩) (by assumption) ?_
        (try simp only [Act.put, List.getElem_toArray, List.getElem_cons_succ, List.getElem_cons_zero, List.setIfInBounds_toArray, List.set_cons_zero, List.set_cons_succ])
        refine wpAnyH_take (i := 12) (v := undef) rfl (by kernel_rfl) (by kernel_rfl) (by kernel_rfl) (fun _ _ _ h => h) (Or.inr ⟨by rfl, rfl⟩) (by assumption) ?_
        (try simp only [Act.put, List.getElem_toArray, List.getElem_cons_succ, List.getElem_cons_zero, List.setIfInBounds_toArray, List.set_cons_zero, List.set_cons_succ])
        refine wpAnyH_take (i := 13) (v := undef) rfl (by kernel_rfl) (by kernel_rfl) (by kernel_rfl) (fun _ _ _ h => h) (Or.inr ⟨by rfl, rfl⟩) (by assumption) ?_
        (try simp only [Act.put, List.getElem_toArray, List.getElem_cons_succ, List.getElem_cons_zero, List.setIfInBounds_toArray, List.set_cons_zero, List.set_cons_succ])
        refine wpAnyH_take (i := 14) (v := undef) rfl (by kernel_rfl) (by kernel_rfl) (by kernel_rfl) (fun _ _ _ h => h) (Or.inr ⟨by rfl, rfl⟩) (by assumption) ?_
        (try simp only [Act.put, List.getElem_toArray, List.getElem_cons_succ, List.getElem_cons_zero, List.setIfInBounds_toArray, List.set_cons_zero, List.set_cons_succ])
        refine wpAnyH_take (i := 15) (v := undef) rfl (by kernel_rfl) (by kernel_rfl) (by kernel_rfl) (fun _ _ _ h => h) (Or.inr ⟨by rfl, rfl⟩) (by assumption) ?_
        (try simp only [Act.put, List.getElem_toArray, List.getElem_cons_succ, List.getElem_cons_zero, List.setIfInBounds_toArray, List.set_cons_zero, List.set_cons_succ])
        refine wpAnyH_take (i := 16) (v := ?_) rfl (by kernel_rfl) (by kernel_rfl) (by kernel_rfl) (fun _ _ _ h => h) (Or.inl ⟨by rfl, ?_⟩) (by assumption) ?_
        rotate_left 1
        · intro w hSw; (try dsimp only at hSw); (try simp only [List.getElem_toArray, List.getElem_cons_succ, List.getElem_cons_zero]); go_simp; (try with_reducible rfl)
        (try simp only [Act.put, List.getElem_toArray, List.getElem_cons_succ, List.getElem_cons_zero, List.setIfInBounds_toArray, List.set_cons_zero, List.set_cons_succ])
        refine wpAnyH_done (by kernel_rfl) ?_ _
        replace R1 := R2
        replace B := B.trans B2
        go_wp2_with fail
        go_ret2
        exact ⟨by rw [HL.out.1, HL.out.2]; first | done | rfl, B0.trans (B.mono sB0)⟩
      · have HLL := Lib.hid hl
        by_cases hl2 : 4096 < St.size + (outN (mOf ms) x.name).size + 4
        · have HL := Lib.hid (put_long HOK.out (end_of_Q (j := j + 1) (by rw [HNX.out]; exact qSt_long hl2)))
          have HC2 := Lib.hid (show 4096 < (St ++ outN (mOf ms) x.name).size + (p16 x.type ++ p16 x.cls).size by omega)
          clear hl hl2 zT zO
          go_region_held3 (fun w' => w'.cell? ⟨kx, 0, none⟩ = some (.string x.name) ∧ w'.cell? ⟨kx, 1, none⟩ = some (.int .i64 x.type) ∧ w'.cell? ⟨kx, 2, none⟩ = some (.int .i64 x.cls))
            (first | with_reducible exact ⟨c1, c2, c3⟩ | with_reducible exact ⟨j1, j2, j3⟩ | (go_keep; done))
            (first
              | (go_at_call 40; with_reducible refine (rname R1 x.name hn hsm).mono ?_; rintro e w7 hh; rw [if_neg HLL.out] at hh; obtain ⟨rfl, v7, R2, B2, K2⟩ := hh; replace pq := (K2.block kx (blk_lt pq) (Ne.symm hgr) (fun cs q => by rw [pq] at q; injection q with q; injection q with _ q; exact absurd q (by decide))).trans pq; (try clear j1 j2 j3 m1 m2 m3); have j1 : w7.cell? ⟨kx, 0, none⟩ = some (.string x.name) := (blk_cell pq 0).trans rfl; have j2 : w7.cell? ⟨kx, 1, none⟩ = some (.int .i64 x.type) := (blk_cell pq 1).trans rfl; have j3 : w7.cell? ⟨kx, 2, none⟩ = some (.int .i64 x.cls) := (blk_cell pq 2).trans rfl; have m1 := World.new_ne w7 ⟨kx, 0, none⟩ j1; have m2 := World.new_ne w7 ⟨kx, 1, none⟩ j2; have m3 := World.new_ne w7 ⟨kx, 2, none⟩ j3; replace R1 := R2; replace B := B.trans B2; clear R2 B2 K2)
              | (go_at_call 41; with_reducible refine (rbe2 x.type _).mono ?_; rintro e w7 ⟨rfl, Bx⟩; replace pq := blk_below pq Bx; replace R1 := R1.below Bx; replace B := B.trans (Bx.mono B.size); clear Bx; (try clear j1 j2 j3 m1 m2 m3); have j1 : w7.cell? ⟨kx, 0, none⟩ = some (.string x.name) := (blk_cell pq 0).trans rfl; have j2 : w7.cell? ⟨kx, 1, none⟩ = some (.int .i64 x.type) := (blk_cell pq 1).trans rfl; have j3 : w7.cell? ⟨kx, 2, none⟩ = some (.int .i64 x.cls) := (blk_cell pq 2).trans rfl; have m1 := World.new_ne w7 ⟨kx, 0, none⟩ j1; have m2 := World.new_ne w7 ⟨kx, 1, none⟩ j2; have m3 := World.new_ne w7 ⟨kx, 2, none⟩ j3)
              | (go_at_call 41; with_reducible refine (rbe2 x.cls _).mono ?_; rintro e w7 ⟨rfl, Bx⟩; replace pq := blk_below pq Bx; replace R1 := R1.below Bx; replace B := B.trans (Bx.mono B.size); clear Bx; (try clear j1 j2 j3 m1 m2 m3); have j1 : w7.cell? ⟨kx, 0, none⟩ = some (.string x.name) := (blk_cell pq 0).trans rfl; have j2 : w7.cell? ⟨kx, 1, none⟩ = some (.int .i64 x.type) := (blk_cell pq 1).trans rfl; have j3 : w7.cell? ⟨kx, 2, none⟩ = some (.int .i64 x.cls) := (blk_cell pq 2).trans rfl; have m1 := World.new_ne w7 ⟨kx, 0, none⟩ j1; have m2 := World.new_ne w7 ⟨kx, 1, none⟩ j2; have m3 := World.new_ne w7 ⟨kx, 2, none⟩ j3)
              | (go_at_call 39; with_reducible refine (rrawLong R1 _ HC2.out).mono ?_; rintro e w8 ⟨rfl, rfl⟩))
          go_wp2_with fail
          go_ret2
          exact ⟨by rw [HL.out.1, HL.out.2]; first | done | rfl, B0.trans (B.mono sB0)⟩
        · have HC2 := Lib.hid (show (St ++ outN (mOf ms) x.name).size + (p16 x.type ++ p16 x.cls).size ≤ 4096 by omega)
          have HE := Lib.hid (qSt_short (S := St) (m := mOf ms) (t := x.type) (c := x.cls) hn hl2)
          have HSM := Lib.hid (hsm.put x.name St.size (by omega))
          have HM := Lib.hid (mOf_put ms x.name St.size)
          clear hl hl2 zT zO
          go_region_held3 (fun w' => w'.cell? ⟨kx, 0, none⟩ = some (.string x.name) ∧ w'.cell? ⟨kx, 1, none⟩ = some (.int .i64 x.type) ∧ w'.cell? ⟨kx, 2, none⟩ = some (.int .i64 x.cls))
            (first | with_reducible exact ⟨c1, c2, c3⟩ | with_reducible exact ⟨j1, j2, j3⟩ | (go_keep; done))
            (first
              | (go_at_call 40; with_reducible refine (rname R1 x.name hn hsm).mono ?_; rintro e w7 hh; rw [if_neg HLL.out] at hh; obtain ⟨rfl, v7, R2, B2, K2⟩ := hh; replace pq := (K2.block kx (blk_lt pq) (Ne.symm hgr) (fun cs q => by rw [pq] at q; injection q with q; injection q with _ q; exact absurd q (by decide))).trans pq; (try clear j1 j2 j3 m1 m2 m3); have j1 : w7.cell? ⟨kx, 0, none⟩ = some (.string x.name) := (blk_cell pq 0).trans rfl; have j2 : w7.cell? ⟨kx, 1, none⟩ = some (.int .i64 x.type) := (blk_cell pq 1).trans rfl; have j3 : w7.cell? ⟨kx, 2, none⟩ = some (.int .i64 x.cls) := (blk_cell pq 2).trans rfl; have m1 := World.new_ne w7 ⟨kx, 0, none⟩ j1; have m2 := World.new_ne w7 ⟨kx, 1, none⟩ j2; have m3 := World.new_ne w7 ⟨kx, 2, none⟩ j3; replace R1 := R2; replace B := B.trans B2; clear R2 B2 K2)
              | (go_at_call 41; with_reducible refine (rbe2 x.type _).mono ?_; rintro e w7 ⟨rfl, Bx⟩; replace pq := blk_below pq Bx; replace R1 := R1.below Bx; replace B := B.trans (Bx.mono B.size); clear Bx; (try clear j1 j2 j3 m1 m2 m3); have j1 : w7.cell? ⟨kx, 0, none⟩ = some (.string x.name) := (blk_cell pq 0).trans rfl; have j2 : w7.cell? ⟨kx, 1, none⟩ = some (.int .i64 x.type) := (blk_cell pq 1).trans rfl; have j3 : w7.cell? ⟨kx, 2, none⟩ = some (.int .i64 x.cls) := (blk_cell pq 2).trans rfl; have m1 := World.new_ne w7 ⟨kx, 0, none⟩ j1; have m2 := World.new_ne w7 ⟨kx, 1, none⟩ j2; have m3 := World.new_ne w7 ⟨kx, 2, none⟩ j3)
              | (go_at_call 41; with_reducible refine (rbe2 x.cls _).mono ?_; rintro e w7 ⟨rfl, Bx⟩; replace pq := blk_below pq Bx; replace R1 := R1.below Bx; replace B := B.trans (Bx.mono B.size); clear Bx; (try clear j1 j2 j3 m1 m2 m3); have j1 : w7.cell? ⟨kx, 0, none⟩ = some (.string x.name) := (blk_cell pq 0).trans rfl; have j2 : w7.cell? ⟨kx, 1, none⟩ = some (.int .i64 x.type) := (blk_cell pq 1).trans rfl; have j3 : w7.cell? ⟨kx, 2, none⟩ = some (.int .i64 x.cls) := (blk_cell pq 2).trans rfl; have m1 := World.new_ne w7 ⟨kx, 0, none⟩ j1; have m2 := World.new_ne w7 ⟨kx, 1, none⟩ j2; have m3 := World.new_ne w7 ⟨kx, 2, none⟩ j3)
              | (go_at_call 39; with_reducible refine (rrawOk R1 _ HC2.out).mono ?_; rintro e w8 ⟨rfl, R6, B6, K2⟩; replace pq := (K2.block kx (blk_lt pq) (Ne.symm hgr) (fun cs q => by rw [pq] at q; injection q with q; injection q with _ q; exact absurd q (by decide))).trans pq; (try clear j1 j2 j3 m1 m2 m3); have j1 : w8.cell? ⟨kx, 0, none⟩ = some (.string x.name) := (blk_cell pq 0).trans rfl; have j2 : w8.cell? ⟨kx, 1, none⟩ = some (.int .i64 x.type) := (blk_cell pq 1).trans rfl; have j3 : w8.cell? ⟨kx, 2, none⟩ = some (.int .i64 x.cls) := (blk_cell pq 2).trans rfl; have m1 := World.new_ne w8 ⟨kx, 0, none⟩ j1; have m2 := World.new_ne w8 ⟨kx, 1, none⟩ j2; have m3 := World.new_ne w8 ⟨kx, 2, none⟩ j3; replace R1 := R6; replace B := B.trans B6; clear R6 B6 K2))
          go_wp2_with fail
          go_roundg (gk - 1)
          case measure => omega
          case rel => exact ⟨j + 1, rfl, by omega, by omega, B, _, _, _, R1, by rw [HNX.out, HM.out]; exact HE.out, by rw [HM.out]; exact HSM.out⟩
    · have q0 : decide ((j : Int) < (m.qs.length : Int)) = false := by simp; omega
      have hst0 : stP m 0 = ⟨St, mOf ms, false⟩ := by have := HSTJ.out; rw [List.take_of_length_le (by omega)] at this; exact this
      have HS0 := Lib.hid hst0
      have d10 : wr.cell? ⟨w.heap.size, 10, none⟩ = some (.slice m.Aa m.an.length m.ca) := bcell B ((blk_cell HB2.out 10).trans rfl)
      have d11 : wr.cell? ⟨w.heap.size, 11, none⟩ = some (.slice m.An m.ns.length m.cn) := bcell B ((blk_cell HB2.out 11).trans rfl)
      have d12 : wr.cell? ⟨w.heap.size, 12, none⟩ = some (.slice m.Ar m.ar.length m.cr) := bcell B ((blk_cell HB2.out 12).trans rfl)
      clear hst0 c9 hq hlq HSTJ R5
      go_wp2_with fail
      have Ba : Below wr.heap.size wr (wr.alloc (.cells #[.slice m.Aa m.an.length m.ca, .slice m.An m.ns.length m.cn, .slice m.Ar m.ar.length m.cr] 25)) := (Below.refl _ _).alloc (Nat.le_refl _) _
      have pa := blk_new wr (.cells #[.slice m.Aa m.an.length m.ca, .slice m.An m.ns.length m.cn, .slice m.Ar m.ar.length m.cr] 25)
      have hga : g ≠ wr.heap.size := Nat.ne_of_lt (blk_lt R.blk)
      have R1 := R.below Ba
      have B1 := B.trans (Ba.mono sB)
      have HRO := Lib.hid (fun p hp => rows3_ok HM1.out p hp)
      clear d10 d11 d12 d9 Ba B R hk1 hk2 hj q0
      generalize wr.alloc (.cells #[.slice m.Aa m.an.length m.ca, .slice m.An m.ns.length m.cn, .slice m.Ar m.ar.length m.cr] 25) = w6 at *
      generalize wr.heap.size = ga at *
      go_loopg [10] 4 (fun k v10 wr => ∃ p : Nat, v10 = .int .i64 p ∧ p + k = 4 ∧ p ≤ 3 ∧ Below w2.heap.size w2 wr ∧ wr.heap[ga]? = some (.cells #[.slice m.Aa m.an.length m.ca, .slice m.An m.ns.length m.cn, .slice m.Ar m.ar.length m.cr] 25 (0, 0)) ∧ ∃ v ms St, Rf w2.heap.size wr g v St ms ∧ stP m p = ⟨St, mOf ms, false⟩ ∧ Small (mOf ms))
      case atStart => exact ⟨0, rfl, rfl, by omega, B1, pa, _, _, _, R1, HS0.out, hsm⟩
      case round =>
        clear R1 HS0 hsm B1 pa
        obtain ⟨p, rfl, hp1, hp2, B, pa, v, ms, St, R, hst, hsm⟩ := hrel
        have HSTP := Lib.hid hst
        clear hst
        by_cases hp : p < 3
        · have q0 : decide ((p : Int) < 3) = true := by simp; omega
          obtain ⟨hcl, hlc, hsml, hl⟩ := HRO.out p hp
          have HCP := Lib.hid (fun (W : World) (h : W.heap[ga]? = some (.cells #[.slice m.Aa m.an.length m.ca, .slice m.An m.ns.length m.cn, .slice m.Ar m.ar.length m.cr] 25 (0, 0))) => rows3_at h p hp)
          have HSN := Lib.hid (stP_next m p hp)
          have HER := Lib.hid (fun j (h : (((rows3 m p).2.1.take j).foldl rSt (stP m p)).lg = true) => end_of_R hp h)
          have HRP := Lib.hid (HRA.out p hp)
          have hle := HRL.out p hp
          clear hl hsml
          generalize (rows3 m p).1 = A at *
          generalize (rows3 m p).2.2 = c at *
          generalize (rows3 m p).2.1 = l at *
          have hp3 : p ≤ 2 := by omega
          go_wp2_with fail
          go_loopg [11] (l.length + 1) (fun k v11 wq => ∃ j : Nat, v11 = .int .i64 j ∧ j + k = l.length + 1 ∧ j ≤ l.length ∧ Below w2.heap.size w2 wq ∧ wq.heap[ga]? = some (.cells #[.slice m.Aa m.an.length m.ca, .slice m.An m.ns.length m.cn, .slice m.Ar m.ar.length m.cr] 25 (0, 0)) ∧ ∃ v ms St, Rf w2.heap.size wq g v St ms ∧ (l.take j).foldl rSt (stP m p) = ⟨St, mOf ms, false⟩ ∧ Small (mOf ms))
          case atStart => exact ⟨0, rfl, by omega, by omega, B, pa, _, _, _, R, HSTP.out, hsm⟩
          case round =>
            clear R HSTP hsm B pa
            obtain ⟨j, rfl, hj1, hj2, B, pa, v, ms, St, R, hst, hsm⟩ := hrel
            have HSTJ := Lib.hid hst
            clear hst
            have cp := HCP.out _ pa
            by_cases hj : j < l.length
            · have q2 : decide ((j : Int) < (l.length : Int)) = true := by simp; omega
              obtain ⟨ad, eA, hat⟩ : ∃ ad, A = some ad ∧ ∀ j, j < l.length → AtR w2 (ad.add (j * 5)) (l.getD j zR) := by
                rcases hcl with h | h
                · omega
                · exact h
              subst eA
              obtain ⟨d0, d1, d2, d3, d4⟩ := (hat j hj).below B
              obtain ⟨htk, hmem⟩ := take_getD (d := zR) hj
              obtain ⟨hn, hd⟩ := may_small (HRP.out _ hmem)
              have HNX := Lib.hid (show (l.take (j + 1)).foldl rSt (stP m p) = rSt ⟨St, mOf ms, false⟩ (l.getD j zR) by rw [htk, List.foldl_append, HSTJ.out]; rfl)
              have km := rrc R (l.getD j zR) hn hsm hd
              clear htk hmem hat hn hd hcl HSTJ
              generalize l.getD j zR = x at *
              go_wp2_with fail
              refine km.mono ?_
              rintro e w7 ⟨B7, K7, hh⟩
              replace pa := (K7.block ga (blk_lt pa) (Ne.symm hga) (fun cs q => by rw [pa] at q; injection q with q; injection q with _ q; exact absurd q (by decide))).trans pa
              replace B := B.trans B7
              clear km d0 d1 d2 d3 d4 cp K7 B7 R
              rcases hh with ⟨hlg, rfl⟩ | ⟨hlg, rfl, v', ms', R', hm', hsm'⟩
              · have HL := Lib.hid (put_long HOK.out (HER.out (j + 1) (by rw [HNX.out]; exact hlg)))
                go_wp2_with fail
                go_ret2
                exact ⟨by rw [HL.out.1, HL.out.2]; first | done | rfl, B0.trans (B.mono sB0)⟩
              · have HNE := Lib.hid (show (l.take (j + 1)).foldl rSt (stP m p) = ⟨(rSt ⟨St, mOf ms, false⟩ x).S, mOf ms', false⟩ by
                  rw [HNX.out, hm']
                  generalize rSt ⟨St, mOf ms, false⟩ x = y at hlg
                  obtain ⟨y1, y2, y3⟩ := y
                  cases hlg; rfl)
                rw [← hm'] at hsm'
                clear hm' hlg
                go_wp2_with fail
                go_roundg (l.length - j)
                case measure => omega
                case rel => exact ⟨j + 1, rfl, by omega, by omega, B, pa, _, _, _, R', HNE.out, hsm'⟩
            · have q2 : decide ((j : Int) < (l.length : Int)) = false := by simp; omega
              have HEE := Lib.hid (show stP m (p + 1) = ⟨St, mOf ms, false⟩ by rw [HSN.out]; have := HSTJ.out; rwa [List.take_of_length_le (by omega)] at this)
              go_wp2_with fail
              go_roundg (3 - p)
              case measure => omega
              case rel => exact ⟨p + 1, rfl, by omega, by omega, B, pa, _, _, _, R, HEE.out, hsm⟩
        · have q0 : decide ((p : Int) < 3) = false := by simp; omega
          obtain rfl : p = 3 := by omega
          have hst := HSTP.out
          rw [stP_3] at hst
          have HL := Lib.hid (put_good HOK.out (by rw [hst]))
          have HSS := Lib.hid (show (putEnd m).S = St by rw [hst])
          clear hst
          go_wp2_with fail
          refine (rall R).mono ?_
          rintro e w7 ⟨rfl, rfl⟩
          go_wp2_with fail
          go_ret2
          exact ⟨by rw [HL.out.1, HL.out.2, HSS.out]; first | done | rfl, B0.trans (B.mono sB0)⟩
end Go.Proofs.Ytjklgdpffmaamaa.Wm

namespace Go.Proofs.Ytjklgdpffmaamaa.Wm
open Go.RowKit Go.PlainAid Go.Proofs.Ytjklgdpffmaamaa.Base
open Go.Proofs.YtjklgdpffmaamaaW.PrintWords (Ev LeO)
set_option linter.unusedVariables false
theorem rgetVc {s : ByteArray} {r : Got} (hs : s.size ≤ 9223372036854775000) (h : Ev (fun k => getV k s) r) (w : World) : Calls Try.prog 25 #[.string s] w (GetPost s w r) := by
  obtain ⟨k, hk⟩ := rget_of h
  exact rgetc s w hs (hk k (Nat.le_refl _))
end Go.Proofs.Ytjklgdpffmaamaa.Wm

namespace Go.Proofs.Ytjklgdpffmaamaa.BRow
open Go.RowKit Go.PlainAid Go.Proofs.Ytjklgdpffmaamaa.Base
set_option linter.unusedVariables false
/-- Block g begins with the bytes l, none of them frozen. -/
def Is (w : World) (e g : Nat) (l : List UInt8) : Prop := ∃ cs lo hi, w.heap[g]? = some (.cells cs e (lo, hi)) ∧ l.length ≤ lo ∧ l.length ≤ cs.size ∧ ∀ j, j < l.length → cs[j]? = some (.int .u8 ((l.getD j 0).toNat : Int))
section
variable {w w' : World} {e g : Nat} {l : List UInt8}
theorem Is.lt (h : Is w e g l) : g < w.heap.size := by
  obtain ⟨cs, lo, hi, h, _⟩ := h
  exact (Array.getElem?_eq_some_iff.1 h).1
theorem Is.cell (h : Is w e g l) (j : Nat) (hj : j < l.length) : w.cell? ⟨g, j, none⟩ = some (.int .u8 ((l.getD j 0).toNat : Int)) := by
  obtain ⟨cs, lo, hi, hb, _, _, hc⟩ := h
  simp [World.cell?, hb, hc j hj]
theorem Is.free (h : Is w e g l) (j : Nat) (hj : j < l.length) : w.frozen? ⟨g, j, none⟩ = false := by
  obtain ⟨cs, lo, hi, hb, hlo, _, hc⟩ := h
  simp [World.frozen?, hb]
  omega
theorem Is.below (h : Is w e g l) (hb : Below w.heap.size w w') : Is w' e g l := by
  have hlt := h.lt
  obtain ⟨cs, lo, hi, hk, r⟩ := h
  exact ⟨cs, lo, hi, (hb.block g hlt).trans hk, r⟩
theorem Is.set (h : Is w e g l) (j : Nat) (hj : j < l.length) (v : UInt8) : Is (w.setCell ⟨g, j, none⟩ (.int .u8 (v.toNat : Int))) e g (l.set j v) := by
  obtain ⟨cs, lo, hi, hk, h1, h2, hc⟩ := h
  refine ⟨cs.setIfInBounds j (.int .u8 (v.toNat : Int)), lo, hi, ?_, by rw [List.length_set]; exact h1, by rw [List.length_set, Array.size_setIfInBounds]; exact h2, fun i hi' => ?_⟩
  · have hlt := (Array.getElem?_eq_some_iff.1 hk).1
    have hg : w.heap[g] = .cells cs e (lo, hi) := (Array.getElem?_eq_some_iff.1 hk).2
    unfold World.setCell
    rw [Array.getElem?_eq_getElem (by simpa using hlt)]
    rw [Array.getElem_modify_self, hg]
    rfl
  · rw [List.length_set] at hi'
    by_cases e' : j = i
    · subst e'
      rw [Array.getElem?_setIfInBounds_self_of_lt (by omega)]
      simp [List.getD_eq_getElem?_getD, hj]
    · rw [Array.getElem?_setIfInBounds_ne e', hc i hi']
      simp [List.getD_eq_getElem?_getD, List.getElem?_set_ne e']
theorem Is.back {P : Program} (h : Is w e g l) (src dst cap n : Nat) (hs : P.underlying src = some (.slice e)) (he : P.underlying e = some (.int .u8)) (hd : P.underlying dst = some .string) (hn : n = l.length) :
    (convert src dst (.slice (some ⟨g, 0, none⟩) n cap)).run P w = .ok (.string ⟨l.toArray⟩) w := by
  subst hn
  refine run_convert_bytes_back w src dst e ⟨g, 0, none⟩ cap l hs he hd fun j hj => ?_
  have := h.cell j hj
  have ea : (⟨g, 0, none⟩ : Addr).add j = ⟨g, j, none⟩ := by
    unfold Addr.add
    split
    · simp_all
    · simp
  rw [ea, this]
  simp [List.getD_eq_getElem?_getD, hj]
end
/-- '[]byte(s)': a new block, the elder ones as they were. -/
theorem made (w : World) (e : Nat) (s : ByteArray) : Below w.heap.size w (Lib.bytesWorld w e s) ∧ Is (Lib.bytesWorld w e s) e w.heap.size s.data.toList ∧ (Lib.bytesWorld w e s).heap.size = w.heap.size + 1 := by
  refine ⟨⟨rfl, rfl, rfl, by rw [Lib.bytesWorld_size]; omega, fun j hj => Lib.bytesWorld_at_old w e s j hj⟩, ⟨_, _, _, Lib.bytesWorld_at_new w e s, ?_, ?_, ?_⟩, Lib.bytesWorld_size w e s⟩
  · unfold Lib.bytesCells; simp
  · unfold Lib.bytesCells; simp
  · intro j hj
    have hj' : j < s.data.size := by simpa using hj
    unfold Lib.bytesCells
    rw [Array.getElem?_append_left (by simpa using hj')]
    simp [List.getD_eq_getElem?_getD, Array.getElem?_eq_getElem hj']
end Go.Proofs.Ytjklgdpffmaamaa.BRow

namespace Go.Proofs.Ytjklgdpffmaamaa.PSm
open Go.RowKit Go.Proofs.YtjklgdpffmaamaaW.PrintWords Go.Proofs.YtjklgdpffmaamaaW.PrintLast Go.Proofs.YtjklgdpffmaamaaW.PrintMore
attribute [local go_sem] max2_int min2_int max_two min_two max_three min_three max_four min_four   -- for this text's walks alone
set_option linter.unusedVariables false
set_option linter.unusedSimpArgs false

theorem eqA23 (d : Nat) (w : World) (x0 y0 : Int) (x1 y1 : Bool) (x2 y2 : Int) (x3 y3 : Bool) (x4 y4 : Bool) (x5 y5 : Bool) (x6 y6 : Bool) (x7 y7 : Int) (x8 y8 : Int) :
    (Op.equalIn (d + 2) 23 (.agg #[.int .i64 x0, .bool x1, .int .i64 x2, .bool x3, .bool x4, .bool x5, .bool x6, .int .i64 x7, .int .i64 x8]) (.agg #[.int .i64 y0, .bool y1, .int .i64 y2, .bool y3, .bool y4, .bool y5, .bool y6, .int .i64 y7, .int .i64 y8])).run Try.prog w = .ok (x0 == y0 && (x1 == y1 && (x2 == y2 && (x3 == y3 && (x4 == y4 && (x5 == y5 && (x6 == y6 && (x7 == y7 && (x8 == y8))))))))) w := by
  refine eqA_of Try.underlying23 (by kernel_rfl) ?_
  refine eqf_cons (by rfl) (by go_simp; rfl) (by go_simp; rfl) (by go_simp) ?_
  refine eqf_cons (by rfl) (by go_simp; rfl) (by go_simp; rfl) (by go_simp) ?_
  refine eqf_cons (by rfl) (by go_simp; rfl) (by go_simp; rfl) (by go_simp) ?_
  refine eqf_cons (by rfl) (by go_simp; rfl) (by go_simp; rfl) (by go_simp) ?_
  refine eqf_cons (by rfl) (by go_simp; rfl) (by go_simp; rfl) (by go_simp) ?_
  refine eqf_cons (by rfl) (by go_simp; rfl) (by go_simp; rfl) (by go_simp) ?_
  refine eqf_cons (by rfl) (by go_simp; rfl) (by go_simp; rfl) (by go_simp) ?_
  refine eqf_cons (by rfl) (by go_simp; rfl) (by go_simp; rfl) (by go_simp) ?_
  exact eqf_last (by rfl) (by go_simp; rfl) (by go_simp; rfl) (by go_simp)
end Go.Proofs.Ytjklgdpffmaamaa.PSm

namespace Go.Proofs.Ytjklgdpffmaamaa.PSm
open Go.RowKit Go.Proofs.YtjklgdpffmaamaaW.PrintWords Go.Proofs.YtjklgdpffmaamaaW.PrintLast Go.Proofs.YtjklgdpffmaamaaW.PrintMore
attribute [local go_sem] max2_int min2_int max_two min_two max_three min_three max_four min_four   -- for this text's walks alone
set_option linter.unusedVariables false
set_option linter.unusedSimpArgs false

theorem eqA40 (d : Nat) (w : World) (x0 y0 : ByteArray) (x1 y1 : Int) (x2 y2 : Int) :
    (Op.equalIn (d + 2) 40 (.agg #[.string x0, .int .i64 x1, .int .i64 x2]) (.agg #[.string y0, .int .i64 y1, .int .i64 y2])).run Try.prog w = .ok (x0.toList == y0.toList && (x1 == y1 && (x2 == y2))) w := by
  refine eqA_of Try.underlying40 (by kernel_rfl) ?_
  refine eqf_cons (by rfl) (by go_simp; rfl) (by go_simp; rfl) (by go_simp) ?_
  refine eqf_cons (by rfl) (by go_simp; rfl) (by go_simp; rfl) (by go_simp) ?_
  exact eqf_last (by rfl) (by go_simp; rfl) (by go_simp; rfl) (by go_simp)
end Go.Proofs.Ytjklgdpffmaamaa.PSm

namespace Go.Proofs.Ytjklgdpffmaamaa.PSm
open Go.RowKit Go.Proofs.YtjklgdpffmaamaaW.PrintWords Go.Proofs.YtjklgdpffmaamaaW.PrintLast Go.Proofs.YtjklgdpffmaamaaW.PrintMore
attribute [local go_sem] max2_int min2_int max_two min_two max_three min_three max_four min_four   -- for this text's walks alone
set_option linter.unusedVariables false
set_option linter.unusedSimpArgs false

theorem eqA53 (d : Nat) (w : World) (x0 y0 : ByteArray) (x1 y1 : Int) (x2 y2 : Int) (x3 y3 : Int) (x4 y4 : ByteArray) :
    (Op.equalIn (d + 2) 53 (.agg #[.string x0, .int .i64 x1, .int .i64 x2, .int .i64 x3, .string x4]) (.agg #[.string y0, .int .i64 y1, .int .i64 y2, .int .i64 y3, .string y4])).run Try.prog w = .ok (x0.toList == y0.toList && (x1 == y1 && (x2 == y2 && (x3 == y3 && (x4.toList == y4.toList))))) w := by
  refine eqA_of Try.underlying53 (by kernel_rfl) ?_
  refine eqf_cons (by rfl) (by go_simp; rfl) (by go_simp; rfl) (by go_simp) ?_
  refine eqf_cons (by rfl) (by go_simp; rfl) (by go_simp; rfl) (by go_simp) ?_
  refine eqf_cons (by rfl) (by go_simp; rfl) (by go_simp; rfl) (by go_simp) ?_
  refine eqf_cons (by rfl) (by go_simp; rfl) (by go_simp; rfl) (by go_simp) ?_
  exact eqf_last (by rfl) (by go_simp; rfl) (by go_simp; rfl) (by go_simp)
end Go.Proofs.Ytjklgdpffmaamaa.PSm

namespace Go.Proofs.Ytjklgdpffmaamaa.PSm
open Go.RowKit Go.Proofs.YtjklgdpffmaamaaW.PrintWords Go.Proofs.YtjklgdpffmaamaaW.PrintLast Go.Proofs.YtjklgdpffmaamaaW.PrintMore
attribute [local go_sem] max2_int min2_int max_two min_two max_three min_three max_four min_four   -- for this text's walks alone
set_option linter.unusedVariables false
set_option linter.unusedSimpArgs false

attribute [local go_sem high] eqA23 eqA40 eqA53
/-! ### wimplelaw0_SameQuestions: function 31 -/
def wimplelaw0_SameQuestions.l0 : Nat → List (S40) → List (S40) → Int → Option (Bool)
  | 0, _, _, _ => none
  | k + 1, x0, x1, x5 => if x5 < (x0.length : Int) then (if 0 ≤ x5 then (if x5 < (x1.length : Int) then (if (!((((rd_T40 x0 x5).f0).toList) == (((rd_T40 x1 x5).f0).toList)) || (!(((rd_T40 x0 x5).f1) == ((rd_T40 x1 x5).f1)) || (!(((rd_T40 x0 x5).f2) == ((rd_T40 x1 x5).f2))))) = true then (some false) else (wimplelaw0_SameQuestions.l0 k x0 x1 (wrap64 (x5 + 1)))) else (none)) else (none)) else (some true)
def wimplelaw0_SameQuestions.f (k : Nat) (l0 : List (S40)) (l1 : List (S40)) : Option (Bool) := if (l0.length : Int) = (l1.length : Int) then (wimplelaw0_SameQuestions.l0 k l0 l1 0) else (some false)
theorem wimplelaw0_SameQuestions.mono_l : ∀ k, (∀ y0 y1 y2, LeO (wimplelaw0_SameQuestions.l0 k y0 y1 y2) (wimplelaw0_SameQuestions.l0 (k + 1) y0 y1 y2))
  | 0 => fun _ _ _ r h => by simp [wimplelaw0_SameQuestions.l0] at h
  | k + 1 => by
    have ih0 := wimplelaw0_SameQuestions.mono_l k
    · intro y0 y1 y2
      unfold wimplelaw0_SameQuestions.l0
      repeat' first
      | (with_reducible exact ih0 _ _ _)
      | (with_reducible exact LeO.refl _)
      | (with_reducible exact LeO.none _)
      | (with_reducible refine LeO.ite ?_ ?_)
      | (with_reducible refine LeO.bind ?_ (fun _ => ?_))
      | exact ih0 _ _ _
      | exact LeO.none _
      | refine LeO.ite ?_ ?_
      | refine LeO.bind ?_ (fun _ => ?_)
theorem wimplelaw0_SameQuestions.mono : ∀ a0 a1 k, LeO (wimplelaw0_SameQuestions.f k a0 a1) (wimplelaw0_SameQuestions.f (k + 1) a0 a1) := by
  intro a0 a1 k
  have ih0 := wimplelaw0_SameQuestions.mono_l k
  unfold wimplelaw0_SameQuestions.f
  repeat' first
      | (with_reducible exact ih0 _ _ _)
      | (with_reducible exact LeO.refl _)
      | (with_reducible exact LeO.none _)
      | (with_reducible refine LeO.ite ?_ ?_)
      | (with_reducible refine LeO.bind ?_ (fun _ => ?_))
      | exact ih0 _ _ _
      | exact LeO.none _
      | refine LeO.ite ?_ ?_
      | refine LeO.bind ?_ (fun _ => ?_)
set_option maxHeartbeats 8000000 in
set_option maxRecDepth 100000 in
theorem wimplelaw0_SameQuestions.calls (k : Nat) (A0 : Option Addr) (c0 : Nat) (l0 : List (S40)) (A1 : Option Addr) (c1 : Nat) (l1 : List (S40)) (r : Bool) (w : World) (hr0 : Kd.C k40 w A0 l0.length l0) (hc0 : l0.length ≤ c0) (hr1 : Kd.C k40 w A1 l1.length l1) (hc1 : l1.length ≤ c1) (h : wimplelaw0_SameQuestions.f k l0 l1 = some r) :
    Calls Try.prog 31 #[.slice A0 l0.length c0, .slice A1 l1.length c1] w fun e w' => e = .returned (.bool r) ∧ Drawn0 w w' := by
  have hu40 := Try.underlying40
  have HR0 := Aside0.mk hr0
  have HC0 := Aside0.mk hc0
  clear hr0 hc0
  have HR1 := Aside0.mk hr1
  have HC1 := Aside0.mk hc1
  clear hr1 hc1
  have H : (if (l0.length : Int) = (l1.length : Int) then (wimplelaw0_SameQuestions.l0 k l0 l1 0) else (some false)) = some r := h
  clear h
  by_cases c3 : (l0.length : Int) = (l1.length : Int)
  · rw [if_pos c3] at H
    have c3b0 : ((l0.length : Int) == (l1.length : Int)) = true := beq_iff_eq.mpr c3
    have c3b1 : ((l0.length : Int) != (l1.length : Int)) = false := bne_eq_false_iff_eq.mpr c3
    have c3b2 : (l0.length == l1.length) = true := by first | simpa using c3 | (simp at c3 ⊢; omega)
    clear c3
    have H' := Aside0.mk H
    clear H
    go_enter Try.func31, Try.ntmps31
    go_wp2
    repeat (go_quiet (fail); try go_wp2)
    go_loopg [5] k (fun kq v5 w' => ∃ (x5_1 : Int), v5 = .int .i64 x5_1 ∧ Aside0 (wimplelaw0_SameQuestions.l0 kq l0 l1 x5_1 = some r) ∧ Aside0 (kq ≤ k) ∧ Drawn0 w w')
    case atStart => exact ⟨(0), (by first | rfl | (simp; done) | (simp [*]; done)), H', ⟨Nat.le_refl _⟩, by repeat (first | exact Drawn0.refl _ | apply Drawn0.step)⟩
    case round =>
      clear H'
      try clear c1
      try clear p2
      try clear c3
      try clear c3b0
      try clear c3b1
      try clear c3b2
      obtain ⟨x5_1, rfl, HA, HK1, ⟨m1, rfl⟩⟩ := hrel
      cases gk with
      | zero => exact absurd HA.out (by simp [wimplelaw0_SameQuestions.l0])
      | succ k1 =>
        have H := HA.out
        clear HA
        simp only [wimplelaw0_SameQuestions.l0] at H
        by_cases c4 : x5_1 < (l0.length : Int)
        · rw [if_pos c4] at H
          have c4b0 : decide (x5_1 < (l0.length : Int)) = true := decide_eq_true c4
          clear c4
          by_cases c5 : 0 ≤ x5_1
          · rw [if_pos c5] at H
            have c5b0 : decide (0 ≤ x5_1) = true := decide_eq_true c5
            clear c5
            by_cases c6 : x5_1 < (l1.length : Int)
            · rw [if_pos c6] at H
              have c6b0 : decide (x5_1 < (l1.length : Int)) = true := decide_eq_true c6
              clear c6
              by_cases c7 : (!((((rd_T40 l0 x5_1).f0).toList) == (((rd_T40 l1 x5_1).f0).toList)) || (!(((rd_T40 l0 x5_1).f1) == ((rd_T40 l1 x5_1).f1)) || (!(((rd_T40 l0 x5_1).f2) == ((rd_T40 l1 x5_1).f2))))) = true
              · rw [if_pos c7] at H
                have c7b0 : (!((((rd_T40 l0 x5_1).f0).toList) == (((rd_T40 l1 x5_1).f0).toList)) || (!(((rd_T40 l0 x5_1).f1) == ((rd_T40 l1 x5_1).f1)) || (!(((rd_T40 l0 x5_1).f2) == ((rd_T40 l1 x5_1).f2))))) = true := c7
                clear c7
                obtain rfl := Option.some.inj H
                have p101 : 0 ≤ (x5_1 : Int) := of_decide_eq_true (by first | (with_reducible assumption) | assumption)
                have q101 : x5_1 < (l0.length : Int) := of_decide_eq_true (by first | (with_reducible assumption) | assumption)
                obtain ⟨ad101, e101, hx101_0, hx101_1, hx101_2⟩ := at_T40 HR0.out x5_1 p101 q101
                cases e101
                replace p101 := eq_true p101
                replace q101 := eq_true q101
                have p102 : 0 ≤ (x5_1 : Int) := of_decide_eq_true (by first | (with_reducible assumption) | assumption)
                have q102 : x5_1 < (l1.length : Int) := of_decide_eq_true (by first | (with_reducible assumption) | assumption)
                obtain ⟨ad102, e102, hx102_0, hx102_1, hx102_2⟩ := at_T40 HR1.out x5_1 p102 q102
                cases e102
                replace p102 := eq_true p102
                replace q102 := eq_true q102
                go_wp2
                repeat (go_quiet (fail); try go_wp2)
                go_ret
                exact ⟨by first | rfl | (simp; done) | (simp [*]; done), by repeat (first | exact Drawn0.refl _ | apply Drawn0.step)⟩
              · rw [if_neg c7] at H
                have c7b0 : (!((((rd_T40 l0 x5_1).f0).toList) == (((rd_T40 l1 x5_1).f0).toList)) || (!(((rd_T40 l0 x5_1).f1) == ((rd_T40 l1 x5_1).f1)) || (!(((rd_T40 l0 x5_1).f2) == ((rd_T40 l1 x5_1).f2))))) = false := by simpa using c7
                clear c7
                have H' := Aside0.mk H
                clear H
                have p101 : 0 ≤ (x5_1 : Int) := of_decide_eq_true (by first | (with_reducible assumption) | assumption)
                have q101 : x5_1 < (l0.length : Int) := of_decide_eq_true (by first | (with_reducible assumption) | assumption)
                obtain ⟨ad101, e101, hx101_0, hx101_1, hx101_2⟩ := at_T40 HR0.out x5_1 p101 q101
                cases e101
                replace p101 := eq_true p101
                replace q101 := eq_true q101
                have p102 : 0 ≤ (x5_1 : Int) := of_decide_eq_true (by first | (with_reducible assumption) | assumption)
                have q102 : x5_1 < (l1.length : Int) := of_decide_eq_true (by first | (with_reducible assumption) | assumption)
                obtain ⟨ad102, e102, hx102_0, hx102_1, hx102_2⟩ := at_T40 HR1.out x5_1 p102 q102
                cases e102
                replace p102 := eq_true p102
                replace q102 := eq_true q102
                go_wp2
                repeat (go_quiet (fail); try go_wp2)
                go_roundg k1
                case measure => have := HK1.out; omega
                case rel => exact ⟨(wrap64 (x5_1 + 1)), (by first | rfl | (simp; done) | (simp [*]; done)), H', ⟨by have := HK1.out; omega⟩, by repeat (first | exact Drawn0.refl _ | apply Drawn0.step)⟩
            · rw [if_neg c6] at H
              exact absurd H (by simp)
          · rw [if_neg c5] at H
            exact absurd H (by simp)
        · rw [if_neg c4] at H
          have c4b0 : decide (x5_1 < (l0.length : Int)) = false := decide_eq_false c4
          clear c4
          obtain rfl := Option.some.inj H
          go_wp2
          repeat (go_quiet (fail); try go_wp2)
          go_ret
          exact ⟨by first | rfl | (simp; done) | (simp [*]; done), by repeat (first | exact Drawn0.refl _ | apply Drawn0.step)⟩
  · rw [if_neg c3] at H
    have c3b0 : ((l0.length : Int) == (l1.length : Int)) = false := beq_eq_false_iff_ne.mpr c3
    have c3b1 : ((l0.length : Int) != (l1.length : Int)) = true := bne_iff_ne.mpr c3
    have c3b2 : (l0.length == l1.length) = false := by first | simpa using c3 | (simp at c3 ⊢; omega)
    obtain rfl := Option.some.inj H
    go_enter Try.func31, Try.ntmps31
    go_wp2
    repeat (go_quiet (fail); try go_wp2)
    go_ret
    exact ⟨by first | rfl | (simp; done) | (simp [*]; done), by repeat (first | exact Drawn0.refl _ | apply Drawn0.step)⟩

/-! ### wimplelaw0_SameRrs: function 44 -/
def wimplelaw0_SameRrs.l0 : Nat → List (S53) → List (S53) → Int → Option (Bool)
  | 0, _, _, _ => none
  | k + 1, x0, x1, x5 => if x5 < (x0.length : Int) then (if 0 ≤ x5 then (if x5 < (x1.length : Int) then (if (!((((rd_T53 x0 x5).f0).toList) == (((rd_T53 x1 x5).f0).toList)) || (!(((rd_T53 x0 x5).f1) == ((rd_T53 x1 x5).f1)) || (!(((rd_T53 x0 x5).f2) == ((rd_T53 x1 x5).f2)) || (!(((rd_T53 x0 x5).f3) == ((rd_T53 x1 x5).f3)) || (!((((rd_T53 x0 x5).f4).toList) == (((rd_T53 x1 x5).f4).toList))))))) = true then (some false) else (wimplelaw0_SameRrs.l0 k x0 x1 (wrap64 (x5 + 1)))) else (none)) else (none)) else (some true)
def wimplelaw0_SameRrs.f (k : Nat) (l0 : List (S53)) (l1 : List (S53)) : Option (Bool) := if (l0.length : Int) = (l1.length : Int) then (wimplelaw0_SameRrs.l0 k l0 l1 0) else (some false)
theorem wimplelaw0_SameRrs.mono_l : ∀ k, (∀ y0 y1 y2, LeO (wimplelaw0_SameRrs.l0 k y0 y1 y2) (wimplelaw0_SameRrs.l0 (k + 1) y0 y1 y2))
  | 0 => fun _ _ _ r h => by simp [wimplelaw0_SameRrs.l0] at h
  | k + 1 => by
    have ih0 := wimplelaw0_SameRrs.mono_l k
    · intro y0 y1 y2
      unfold wimplelaw0_SameRrs.l0
      repeat' first
      | (with_reducible exact ih0 _ _ _)
      | (with_reducible exact LeO.refl _)
      | (with_reducible exact LeO.none _)
      | (with_reducible refine LeO.ite ?_ ?_)
      | (with_reducible refine LeO.bind ?_ (fun _ => ?_))
      | exact ih0 _ _ _
      | exact LeO.none _
      | refine LeO.ite ?_ ?_
      | refine LeO.bind ?_ (fun _ => ?_)
theorem wimplelaw0_SameRrs.mono : ∀ a0 a1 k, LeO (wimplelaw0_SameRrs.f k a0 a1) (wimplelaw0_SameRrs.f (k + 1) a0 a1) := by
  intro a0 a1 k
  have ih0 := wimplelaw0_SameRrs.mono_l k
  unfold wimplelaw0_SameRrs.f
  repeat' first
      | (with_reducible exact ih0 _ _ _)
      | (with_reducible exact LeO.refl _)
      | (with_reducible exact LeO.none _)
      | (with_reducible refine LeO.ite ?_ ?_)
      | (with_reducible refine LeO.bind ?_ (fun _ => ?_))
      | exact ih0 _ _ _
      | exact LeO.none _
      | refine LeO.ite ?_ ?_
      | refine LeO.bind ?_ (fun _ => ?_)
set_option maxHeartbeats 8000000 in
set_option maxRecDepth 100000 in
theorem wimplelaw0_SameRrs.calls (k : Nat) (A0 : Option Addr) (c0 : Nat) (l0 : List (S53)) (A1 : Option Addr) (c1 : Nat) (l1 : List (S53)) (r : Bool) (w : World) (hr0 : Kd.C k53 w A0 l0.length l0) (hc0 : l0.length ≤ c0) (hr1 : Kd.C k53 w A1 l1.length l1) (hc1 : l1.length ≤ c1) (h : wimplelaw0_SameRrs.f k l0 l1 = some r) :
    Calls Try.prog 44 #[.slice A0 l0.length c0, .slice A1 l1.length c1] w fun e w' => e = .returned (.bool r) ∧ Drawn0 w w' := by
  have hu53 := Try.underlying53
  have HR0 := Aside0.mk hr0
  have HC0 := Aside0.mk hc0
  clear hr0 hc0
  have HR1 := Aside0.mk hr1
  have HC1 := Aside0.mk hc1
  clear hr1 hc1
  have H : (if (l0.length : Int) = (l1.length : Int) then (wimplelaw0_SameRrs.l0 k l0 l1 0) else (some false)) = some r := h
  clear h
  by_cases c3 : (l0.length : Int) = (l1.length : Int)
  · rw [if_pos c3] at H
    have c3b0 : ((l0.length : Int) == (l1.length : Int)) = true := beq_iff_eq.mpr c3
    have c3b1 : ((l0.length : Int) != (l1.length : Int)) = false := bne_eq_false_iff_eq.mpr c3
    have c3b2 : (l0.length == l1.length) = true := by first | simpa using c3 | (simp at c3 ⊢; omega)
    clear c3
    have H' := Aside0.mk H
    clear H
    go_enter Try.func44, Try.ntmps44
    go_wp2
    repeat (go_quiet (fail); try go_wp2)
    go_loopg [5] k (fun kq v5 w' => ∃ (x5_1 : Int), v5 = .int .i64 x5_1 ∧ Aside0 (wimplelaw0_SameRrs.l0 kq l0 l1 x5_1 = some r) ∧ Aside0 (kq ≤ k) ∧ Drawn0 w w')
    case atStart => exact ⟨(0), (by first | rfl | (simp; done) | (simp [*]; done)), H', ⟨Nat.le_refl _⟩, by repeat (first | exact Drawn0.refl _ | apply Drawn0.step)⟩
    case round =>
      clear H'
      try clear c1
      try clear p2
      try clear c3
      try clear c3b0
      try clear c3b1
      try clear c3b2
      obtain ⟨x5_1, rfl, HA, HK1, ⟨m1, rfl⟩⟩ := hrel
      cases gk with
      | zero => exact absurd HA.out (by simp [wimplelaw0_SameRrs.l0])
      | succ k1 =>
        have H := HA.out
        clear HA
        simp only [wimplelaw0_SameRrs.l0] at H
        by_cases c4 : x5_1 < (l0.length : Int)
        · rw [if_pos c4] at H
          have c4b0 : decide (x5_1 < (l0.length : Int)) = true := decide_eq_true c4
          clear c4
          by_cases c5 : 0 ≤ x5_1
          · rw [if_pos c5] at H
            have c5b0 : decide (0 ≤ x5_1) = true := decide_eq_true c5
            clear c5
            by_cases c6 : x5_1 < (l1.length : Int)
            · rw [if_pos c6] at H
              have c6b0 : decide (x5_1 < (l1.length : Int)) = true := decide_eq_true c6
              clear c6
              by_cases c7 : (!((((rd_T53 l0 x5_1).f0).toList) == (((rd_T53 l1 x5_1).f0).toList)) || (!(((rd_T53 l0 x5_1).f1) == ((rd_T53 l1 x5_1).f1)) || (!(((rd_T53 l0 x5_1).f2) == ((rd_T53 l1 x5_1).f2)) || (!(((rd_T53 l0 x5_1).f3) == ((rd_T53 l1 x5_1).f3)) || (!((((rd_T53 l0 x5_1).f4).toList) == (((rd_T53 l1 x5_1).f4).toList))))))) = true
              · rw [if_pos c7] at H
                have c7b0 : (!((((rd_T53 l0 x5_1).f0).toList) == (((rd_T53 l1 x5_1).f0).toList)) || (!(((rd_T53 l0 x5_1).f1) == ((rd_T53 l1 x5_1).f1)) || (!(((rd_T53 l0 x5_1).f2) == ((rd_T53 l1 x5_1).f2)) || (!(((rd_T53 l0 x5_1).f3) == ((rd_T53 l1 x5_1).f3)) || (!((((rd_T53 l0 x5_1).f4).toList) == (((rd_T53 l1 x5_1).f4).toList))))))) = true := c7
                clear c7
                obtain rfl := Option.some.inj H
                have p103 : 0 ≤ (x5_1 : Int) := of_decide_eq_true (by first | (with_reducible assumption) | assumption)
                have q103 : x5_1 < (l0.length : Int) := of_decide_eq_true (by first | (with_reducible assumption) | assumption)
                obtain ⟨ad103, e103, hx103_0, hx103_1, hx103_2, hx103_3, hx103_4⟩ := at_T53 HR0.out x5_1 p103 q103
                cases e103
                replace p103 := eq_true p103
                replace q103 := eq_true q103
                have p104 : 0 ≤ (x5_1 : Int) := of_decide_eq_true (by first | (with_reducible assumption) | assumption)
                have q104 : x5_1 < (l1.length : Int) := of_decide_eq_true (by first | (with_reducible assumption) | assumption)
                obtain ⟨ad104, e104, hx104_0, hx104_1, hx104_2, hx104_3, hx104_4⟩ := at_T53 HR1.out x5_1 p104 q104
                cases e104
                replace p104 := eq_true p104
                replace q104 := eq_true q104
                go_wp2
                repeat (go_quiet (fail); try go_wp2)
                go_ret
                exact ⟨by first | rfl | (simp; done) | (simp [*]; done), by repeat (first | exact Drawn0.refl _ | apply Drawn0.step)⟩
              · rw [if_neg c7] at H
                have c7b0 : (!((((rd_T53 l0 x5_1).f0).toList) == (((rd_T53 l1 x5_1).f0).toList)) || (!(((rd_T53 l0 x5_1).f1) == ((rd_T53 l1 x5_1).f1)) || (!(((rd_T53 l0 x5_1).f2) == ((rd_T53 l1 x5_1).f2)) || (!(((rd_T53 l0 x5_1).f3) == ((rd_T53 l1 x5_1).f3)) || (!((((rd_T53 l0 x5_1).f4).toList) == (((rd_T53 l1 x5_1).f4).toList))))))) = false := by simpa using c7
                clear c7
                have H' := Aside0.mk H
                clear H
                have p103 : 0 ≤ (x5_1 : Int) := of_decide_eq_true (by first | (with_reducible assumption) | assumption)
                have q103 : x5_1 < (l0.length : Int) := of_decide_eq_true (by first | (with_reducible assumption) | assumption)
                obtain ⟨ad103, e103, hx103_0, hx103_1, hx103_2, hx103_3, hx103_4⟩ := at_T53 HR0.out x5_1 p103 q103
                cases e103
                replace p103 := eq_true p103
                replace q103 := eq_true q103
                have p104 : 0 ≤ (x5_1 : Int) := of_decide_eq_true (by first | (with_reducible assumption) | assumption)
                have q104 : x5_1 < (l1.length : Int) := of_decide_eq_true (by first | (with_reducible assumption) | assumption)
                obtain ⟨ad104, e104, hx104_0, hx104_1, hx104_2, hx104_3, hx104_4⟩ := at_T53 HR1.out x5_1 p104 q104
                cases e104
                replace p104 := eq_true p104
                replace q104 := eq_true q104
                go_wp2
                repeat (go_quiet (fail); try go_wp2)
                go_roundg k1
                case measure => have := HK1.out; omega
                case rel => exact ⟨(wrap64 (x5_1 + 1)), (by first | rfl | (simp; done) | (simp [*]; done)), H', ⟨by have := HK1.out; omega⟩, by repeat (first | exact Drawn0.refl _ | apply Drawn0.step)⟩
            · rw [if_neg c6] at H
              exact absurd H (by simp)
          · rw [if_neg c5] at H
            exact absurd H (by simp)
        · rw [if_neg c4] at H
          have c4b0 : decide (x5_1 < (l0.length : Int)) = false := decide_eq_false c4
          clear c4
          obtain rfl := Option.some.inj H
          go_wp2
          repeat (go_quiet (fail); try go_wp2)
          go_ret
          exact ⟨by first | rfl | (simp; done) | (simp [*]; done), by repeat (first | exact Drawn0.refl _ | apply Drawn0.step)⟩
  · rw [if_neg c3] at H
    have c3b0 : ((l0.length : Int) == (l1.length : Int)) = false := beq_eq_false_iff_ne.mpr c3
    have c3b1 : ((l0.length : Int) != (l1.length : Int)) = true := bne_iff_ne.mpr c3
    have c3b2 : (l0.length == l1.length) = false := by first | simpa using c3 | (simp at c3 ⊢; omega)
    obtain rfl := Option.some.inj H
    go_enter Try.func44, Try.ntmps44
    go_wp2
    repeat (go_quiet (fail); try go_wp2)
    go_ret
    exact ⟨by first | rfl | (simp; done) | (simp [*]; done), by repeat (first | exact Drawn0.refl _ | apply Drawn0.step)⟩

/-! ### wimplelaw0_SameMsg: function 20 -/
def wimplelaw0_SameMsg.f (k : Nat) (a0_0 : Int) (a0_1 : Bool) (a0_2 : Int) (a0_3 : Bool) (a0_4 : Bool) (a0_5 : Bool) (a0_6 : Bool) (a0_7 : Int) (a0_8 : Int) (l0_9 : List (S40)) (l0_10 : List (S53)) (l0_11 : List (S53)) (l0_12 : List (S53)) (a1_0 : Int) (a1_1 : Bool) (a1_2 : Int) (a1_3 : Bool) (a1_4 : Bool) (a1_5 : Bool) (a1_6 : Bool) (a1_7 : Int) (a1_8 : Int) (l1_9 : List (S40)) (l1_10 : List (S53)) (l1_11 : List (S53)) (l1_12 : List (S53)) : Option (Bool) := if (a0_0 == a1_0 && (a0_1 == a1_1 && (a0_2 == a1_2 && (a0_3 == a1_3 && (a0_4 == a1_4 && (a0_5 == a1_5 && (a0_6 == a1_6 && (a0_7 == a1_7 && (a0_8 == a1_8))))))))) = true then ((wimplelaw0_SameQuestions.f k l0_9 l1_9).bind fun t107 => (if t107 = true then ((wimplelaw0_SameRrs.f k l0_10 l1_10).bind fun t108 => (if t108 = true then ((wimplelaw0_SameRrs.f k l0_11 l1_11).bind fun t109 => (if t109 = true then ((wimplelaw0_SameRrs.f k l0_12 l1_12).bind fun t110 => (some t110)) else (none))) else (none))) else (none))) else (none)
theorem wimplelaw0_SameMsg.mono : ∀ a0 a1 a2 a3 a4 a5 a6 a7 a8 a9 a10 a11 a12 a13 a14 a15 a16 a17 a18 a19 a20 a21 a22 a23 a24 a25 k, LeO (wimplelaw0_SameMsg.f k a0 a1 a2 a3 a4 a5 a6 a7 a8 a9 a10 a11 a12 a13 a14 a15 a16 a17 a18 a19 a20 a21 a22 a23 a24 a25) (wimplelaw0_SameMsg.f (k + 1) a0 a1 a2 a3 a4 a5 a6 a7 a8 a9 a10 a11 a12 a13 a14 a15 a16 a17 a18 a19 a20 a21 a22 a23 a24 a25) := by
  intro a0 a1 a2 a3 a4 a5 a6 a7 a8 a9 a10 a11 a12 a13 a14 a15 a16 a17 a18 a19 a20 a21 a22 a23 a24 a25 k
  unfold wimplelaw0_SameMsg.f
  repeat' first
      | (with_reducible exact wimplelaw0_SameQuestions.mono _ _ _)
      | (with_reducible exact wimplelaw0_SameRrs.mono _ _ _)
      | (with_reducible exact LeO.refl _)
      | (with_reducible exact LeO.none _)
      | (with_reducible refine LeO.ite ?_ ?_)
      | (with_reducible refine LeO.bind ?_ (fun _ => ?_))
      | exact wimplelaw0_SameQuestions.mono _ _ _
      | exact wimplelaw0_SameRrs.mono _ _ _
      | exact LeO.none _
      | refine LeO.ite ?_ ?_
      | refine LeO.bind ?_ (fun _ => ?_)
set_option maxHeartbeats 8000000 in
set_option maxRecDepth 100000 in
theorem wimplelaw0_SameMsg.calls (k : Nat) (a0_0 : Int) (a0_1 : Bool) (a0_2 : Int) (a0_3 : Bool) (a0_4 : Bool) (a0_5 : Bool) (a0_6 : Bool) (a0_7 : Int) (a0_8 : Int) (A0_9 : Option Addr) (c0_9 : Nat) (l0_9 : List (S40)) (A0_10 : Option Addr) (c0_10 : Nat) (l0_10 : List (S53)) (A0_11 : Option Addr) (c0_11 : Nat) (l0_11 : List (S53)) (A0_12 : Option Addr) (c0_12 : Nat) (l0_12 : List (S53)) (a1_0 : Int) (a1_1 : Bool) (a1_2 : Int) (a1_3 : Bool) (a1_4 : Bool) (a1_5 : Bool) (a1_6 : Bool) (a1_7 : Int) (a1_8 : Int) (A1_9 : Option Addr) (c1_9 : Nat) (l1_9 : List (S40)) (A1_10 : Option Addr) (c1_10 : Nat) (l1_10 : List (S53)) (A1_11 : Option Addr) (c1_11 : Nat) (l1_11 : List (S53)) (A1_12 : Option Addr) (c1_12 : Nat) (l1_12 : List (S53)) (r : Bool) (w : World) (hr0_9 : Kd.C k40 w A0_9 l0_9.length l0_9) (hc0_9 : l0_9.length ≤ c0_9) (hr0_10 : Kd.C k53 w A0_10 l0_10.length l0_10) (hc0_10 : l0_10.length ≤ c0_10) (hr0_11 : Kd.C k53 w A0_11 l0_11.length l0_11) (hc0_11 : l0_11.length ≤ c0_11) (hr0_12 : Kd.C k53 w A0_12 l0_12.length l0_12) (hc0_12 : l0_12.length ≤ c0_12) (hr1_9 : Kd.C k40 w A1_9 l1_9.length l1_9) (hc1_9 : l1_9.length ≤ c1_9) (hr1_10 : Kd.C k53 w A1_10 l1_10.length l1_10) (hc1_10 : l1_10.length ≤ c1_10) (hr1_11 : Kd.C k53 w A1_11 l1_11.length l1_11) (hc1_11 : l1_11.length ≤ c1_11) (hr1_12 : Kd.C k53 w A1_12 l1_12.length l1_12) (hc1_12 : l1_12.length ≤ c1_12) (h : wimplelaw0_SameMsg.f k a0_0 a0_1 a0_2 a0_3 a0_4 a0_5 a0_6 a0_7 a0_8 l0_9 l0_10 l0_11 l0_12 a1_0 a1_1 a1_2 a1_3 a1_4 a1_5 a1_6 a1_7 a1_8 l1_9 l1_10 l1_11 l1_12 = some r) :
    Calls Try.prog 20 #[.agg #[.int .i64 a0_0, .bool a0_1, .int .i64 a0_2, .bool a0_3, .bool a0_4, .bool a0_5, .bool a0_6, .int .i64 a0_7, .int .i64 a0_8, .slice A0_9 l0_9.length c0_9, .slice A0_10 l0_10.length c0_10, .slice A0_11 l0_11.length c0_11, .slice A0_12 l0_12.length c0_12], .agg #[.int .i64 a1_0, .bool a1_1, .int .i64 a1_2, .bool a1_3, .bool a1_4, .bool a1_5, .bool a1_6, .int .i64 a1_7, .int .i64 a1_8, .slice A1_9 l1_9.length c1_9, .slice A1_10 l1_10.length c1_10, .slice A1_11 l1_11.length c1_11, .slice A1_12 l1_12.length c1_12]] w fun e w' => e = .returned (.bool r) ∧ Below w.heap.size w w' := by
  have hu27 := Try.underlying27
  have hu23 := Try.underlying23
  have HR0_9 := Aside0.mk hr0_9
  have HC0_9 := Aside0.mk hc0_9
  clear hr0_9 hc0_9
  have HR0_10 := Aside0.mk hr0_10
  have HC0_10 := Aside0.mk hc0_10
  clear hr0_10 hc0_10
  have HR0_11 := Aside0.mk hr0_11
  have HC0_11 := Aside0.mk hc0_11
  clear hr0_11 hc0_11
  have HR0_12 := Aside0.mk hr0_12
  have HC0_12 := Aside0.mk hc0_12
  clear hr0_12 hc0_12
  have HR1_9 := Aside0.mk hr1_9
  have HC1_9 := Aside0.mk hc1_9
  clear hr1_9 hc1_9
  have HR1_10 := Aside0.mk hr1_10
  have HC1_10 := Aside0.mk hc1_10
  clear hr1_10 hc1_10
  have HR1_11 := Aside0.mk hr1_11
  have HC1_11 := Aside0.mk hc1_11
  clear hr1_11 hc1_11
  have HR1_12 := Aside0.mk hr1_12
  have HC1_12 := Aside0.mk hc1_12
  clear hr1_12 hc1_12
  have HB := Aside0.mk (Below.refl w.heap.size w)
  have H : (if (a0_0 == a1_0 && (a0_1 == a1_1 && (a0_2 == a1_2 && (a0_3 == a1_3 && (a0_4 == a1_4 && (a0_5 == a1_5 && (a0_6 == a1_6 && (a0_7 == a1_7 && (a0_8 == a1_8))))))))) = true then ((wimplelaw0_SameQuestions.f k l0_9 l1_9).bind fun t107 => (if t107 = true then ((wimplelaw0_SameRrs.f k l0_10 l1_10).bind fun t108 => (if t108 = true then ((wimplelaw0_SameRrs.f k l0_11 l1_11).bind fun t109 => (if t109 = true then ((wimplelaw0_SameRrs.f k l0_12 l1_12).bind fun t110 => (some t110)) else (none))) else (none))) else (none))) else (none)) = some r := h
  clear h
  by_cases c3 : (a0_0 == a1_0 && (a0_1 == a1_1 && (a0_2 == a1_2 && (a0_3 == a1_3 && (a0_4 == a1_4 && (a0_5 == a1_5 && (a0_6 == a1_6 && (a0_7 == a1_7 && (a0_8 == a1_8))))))))) = true
  · rw [if_pos c3] at H
    (try (have c3b9 := c3; simp only [Bool.and_eq_true, beq_iff_eq] at c3b9; replace c3b9 := eq_true c3b9))
    have c3b0 : (a0_0 == a1_0 && (a0_1 == a1_1 && (a0_2 == a1_2 && (a0_3 == a1_3 && (a0_4 == a1_4 && (a0_5 == a1_5 && (a0_6 == a1_6 && (a0_7 == a1_7 && (a0_8 == a1_8))))))))) = true := c3
    (try (have c3b1 : decide (a0_0 = a1_0 && (a0_1 == a1_1 && (a0_2 == a1_2 && (a0_3 == a1_3 && (a0_4 == a1_4 && (a0_5 == a1_5 && (a0_6 == a1_6 && (a0_7 == a1_7 && (a0_8 == a1_8))))))))) = true := by simpa using c3))
    (try (have c3b2 : (a0_0 == a1_0 && (a0_1 == a1_1 && (a0_2 == a1_2 && (a0_3 == a1_3 && (a0_4 == a1_4 && (a0_5 == a1_5 && (a0_6 == a1_6 && (a0_7 == a1_7 && (a0_8 == a1_8))))))))) = true := by simpa using c3))
    clear c3
    replace H := Option.bind_eq_some_iff.mp H
    obtain ⟨t107, A40, H⟩ := H
    replace H : (if t107 = true then ((wimplelaw0_SameRrs.f k l0_10 l1_10).bind fun t108 => (if t108 = true then ((wimplelaw0_SameRrs.f k l0_11 l1_11).bind fun t109 => (if t109 = true then ((wimplelaw0_SameRrs.f k l0_12 l1_12).bind fun t110 => (some t110)) else (none))) else (none))) else (none)) = some r := H
    have A4 := Aside0.mk A40
    clear A40
    by_cases c5 : t107 = true
    · subst c5
      have H1 : ((wimplelaw0_SameRrs.f k l0_10 l1_10).bind fun t108 => (if t108 = true then ((wimplelaw0_SameRrs.f k l0_11 l1_11).bind fun t109 => (if t109 = true then ((wimplelaw0_SameRrs.f k l0_12 l1_12).bind fun t110 => (some t110)) else (none))) else (none))) = some r := by rw [if_pos rfl] at H; exact H
      clear H
      have H := H1
      clear H1
      replace H := Option.bind_eq_some_iff.mp H
      obtain ⟨t108, A60, H⟩ := H
      replace H : (if t108 = true then ((wimplelaw0_SameRrs.f k l0_11 l1_11).bind fun t109 => (if t109 = true then ((wimplelaw0_SameRrs.f k l0_12 l1_12).bind fun t110 => (some t110)) else (none))) else (none)) = some r := H
      have A6 := Aside0.mk A60
      clear A60
      by_cases c7 : t108 = true
      · subst c7
        have H1 : ((wimplelaw0_SameRrs.f k l0_11 l1_11).bind fun t109 => (if t109 = true then ((wimplelaw0_SameRrs.f k l0_12 l1_12).bind fun t110 => (some t110)) else (none))) = some r := by rw [if_pos rfl] at H; exact H
        clear H
        have H := H1
        clear H1
        replace H := Option.bind_eq_some_iff.mp H
        obtain ⟨t109, A80, H⟩ := H
        replace H : (if t109 = true then ((wimplelaw0_SameRrs.f k l0_12 l1_12).bind fun t110 => (some t110)) else (none)) = some r := H
        have A8 := Aside0.mk A80
        clear A80
        by_cases c9 : t109 = true
        · subst c9
          have H1 : ((wimplelaw0_SameRrs.f k l0_12 l1_12).bind fun t110 => (some t110)) = some r := by rw [if_pos rfl] at H; exact H
          clear H
          have H := H1
          clear H1
          replace H := Option.bind_eq_some_iff.mp H
          obtain ⟨t110, A100, H⟩ := H
          replace H : (some t110) = some r := H
          have A10 := Aside0.mk A100
          clear A100
          obtain rfl := Option.some.inj H
          go_enter Try.func20, Try.ntmps20
          go_wp2_with (first | ((with_reducible refine gate_dst (N := 2) rfl ?_); refine box_event ?hg (N := 2) ?hd (cs := #[.int .i64 a0_0, .bool a0_1, .int .i64 a0_2, .bool a0_3, .bool a0_4, .bool a0_5, .bool a0_6, .int .i64 a0_7, .int .i64 a0_8, .slice A0_9 l0_9.length c0_9, .slice A0_10 l0_10.length c0_10, .slice A0_11 l0_11.length c0_11, .slice A0_12 l0_12.length c0_12]) (t := 27) ?hr ?_; (case hd => rfl); (case hg => rfl); (case hr => first | (go_simp; done) | (go_simp; rfl)); intro gb105 hg w11 hbox hb; have n0_ := Aside0.mk (below_step (by repeat (first | (with_reducible first | exact HB.out | apply below_alloc | apply pw_below_drewN | apply below_drew1) | exact HB.out)) hb); have n1_ := Aside0.mk (hbox); have n2_ := Aside0.mk ((by rw [hg]; exact (below_size (by repeat (first | (with_reducible first | exact HB.out | apply below_alloc | apply pw_below_drewN | apply below_drew1) | exact HB.out))) : w.heap.size ≤ gb105)); have n3_ := Aside0.mk ((by rw [hg]; exact (below_size (by repeat (first | (with_reducible first | exact HB.out | apply below_alloc | apply pw_below_drewN | apply below_drew1) | exact HB.out))) : w.heap.size ≤ gb105)); clear HB; have HB := n0_; have BK105 := n1_; have GW105 := n2_; have GE105 := n3_; clear n0_ n1_ n2_ n3_; clear hb hbox hg) | ((with_reducible refine gate_dst (N := 3) rfl ?_); refine box_event ?hg (N := 3) ?hd (cs := #[.int .i64 a1_0, .bool a1_1, .int .i64 a1_2, .bool a1_3, .bool a1_4, .bool a1_5, .bool a1_6, .int .i64 a1_7, .int .i64 a1_8, .slice A1_9 l1_9.length c1_9, .slice A1_10 l1_10.length c1_10, .slice A1_11 l1_11.length c1_11, .slice A1_12 l1_12.length c1_12]) (t := 27) ?hr ?_; (case hd => rfl); (case hg => rfl); (case hr => first | (go_simp; done) | (go_simp; rfl)); intro gb106 hg w12 hbox hb; have n0_ := Aside0.mk (blk_below (g := gb105) (o := .cells #[.int .i64 a0_0, .bool a0_1, .int .i64 a0_2, .bool a0_3, .bool a0_4, .bool a0_5, .bool a0_6, .int .i64 a0_7, .int .i64 a0_8, .slice A0_9 l0_9.length c0_9, .slice A0_10 l0_10.length c0_10, .slice A0_11 l0_11.length c0_11, .slice A0_12 l0_12.length c0_12] 27 (0, 0)) (by (with_reducible repeat (first | refine blk_drewN ?_ _ | refine blk_drew ?_ | refine blk_alloc ?_ _)); exact BK105.out) hb); have n1_ := Aside0.mk (below_step (by repeat (first | (with_reducible first | exact HB.out | apply below_alloc | apply pw_below_drewN | apply below_drew1 | refine below_set ?_ GE105.out) | exact HB.out)) hb); have n2_ := Aside0.mk (hbox); have n3_ := Aside0.mk ((by rw [hg]; exact (below_size (by repeat (first | (with_reducible first | exact HB.out | apply below_alloc | apply pw_below_drewN | apply below_drew1 | refine below_set ?_ GE105.out) | exact HB.out))) : w.heap.size ≤ gb106)); have n4_ := Aside0.mk ((by rw [hg]; exact (below_size (by repeat (first | (with_reducible first | exact HB.out | apply below_alloc | apply pw_below_drewN | apply below_drew1 | refine below_set ?_ GE105.out) | exact HB.out))) : w.heap.size ≤ gb106)); have n5_ := Aside0.mk ((by rw [hg]; exact Nat.ne_of_lt (blk_lt (g := gb105) (o := .cells #[.int .i64 a0_0, .bool a0_1, .int .i64 a0_2, .bool a0_3, .bool a0_4, .bool a0_5, .bool a0_6, .int .i64 a0_7, .int .i64 a0_8, .slice A0_9 l0_9.length c0_9, .slice A0_10 l0_10.length c0_10, .slice A0_11 l0_11.length c0_11, .slice A0_12 l0_12.length c0_12] 27 (0, 0)) (by (with_reducible repeat (first | refine blk_drewN ?_ _ | refine blk_drew ?_ | refine blk_alloc ?_ _)); exact BK105.out)) : gb105 ≠ gb106)); have n6_ := Aside0.mk ((by rw [hg]; exact Nat.ne_of_gt (blk_lt (g := gb105) (o := .cells #[.int .i64 a0_0, .bool a0_1, .int .i64 a0_2, .bool a0_3, .bool a0_4, .bool a0_5, .bool a0_6, .int .i64 a0_7, .int .i64 a0_8, .slice A0_9 l0_9.length c0_9, .slice A0_10 l0_10.length c0_10, .slice A0_11 l0_11.length c0_11, .slice A0_12 l0_12.length c0_12] 27 (0, 0)) (by (with_reducible repeat (first | refine blk_drewN ?_ _ | refine blk_drew ?_ | refine blk_alloc ?_ _)); exact BK105.out)) : gb106 ≠ gb105)); clear BK105; clear HB; have BK105 := n0_; have HB := n1_; have BK106 := n2_; have GW106 := n3_; have GE106 := n4_; have NB105_106 := n5_; have NB106_105 := n6_; clear n0_ n1_ n2_ n3_ n4_ n5_ n6_; clear hb hbox hg; have hnb13 := NB105_106.out; have hnc13 := NB106_105.out; have hcz14_0 : w12.cell? ⟨gb105, 0, none⟩ = some (.int .i64 a0_0) := (blk_cell BK105.out 0).trans rfl; have hcz14_1 : w12.cell? ⟨gb105, 1, none⟩ = some (.bool a0_1) := (blk_cell BK105.out 1).trans rfl; have hcz14_2 : w12.cell? ⟨gb105, 2, none⟩ = some (.int .i64 a0_2) := (blk_cell BK105.out 2).trans rfl; have hcz14_3 : w12.cell? ⟨gb105, 3, none⟩ = some (.bool a0_3) := (blk_cell BK105.out 3).trans rfl; have hcz14_4 : w12.cell? ⟨gb105, 4, none⟩ = some (.bool a0_4) := (blk_cell BK105.out 4).trans rfl; have hcz14_5 : w12.cell? ⟨gb105, 5, none⟩ = some (.bool a0_5) := (blk_cell BK105.out 5).trans rfl; have hcz14_6 : w12.cell? ⟨gb105, 6, none⟩ = some (.bool a0_6) := (blk_cell BK105.out 6).trans rfl; have hcz14_7 : w12.cell? ⟨gb105, 7, none⟩ = some (.int .i64 a0_7) := (blk_cell BK105.out 7).trans rfl; have hcz14_8 : w12.cell? ⟨gb105, 8, none⟩ = some (.int .i64 a0_8) := (blk_cell BK105.out 8).trans rfl; have hcz14_9 : w12.cell? ⟨gb105, 9, none⟩ = some (.slice A0_9 l0_9.length c0_9) := (blk_cell BK105.out 9).trans rfl; have hcz14_10 : w12.cell? ⟨gb105, 10, none⟩ = some (.slice A0_10 l0_10.length c0_10) := (blk_cell BK105.out 10).trans rfl; have hcz14_11 : w12.cell? ⟨gb105, 11, none⟩ = some (.slice A0_11 l0_11.length c0_11) := (blk_cell BK105.out 11).trans rfl; have hcz14_12 : w12.cell? ⟨gb105, 12, none⟩ = some (.slice A0_12 l0_12.length c0_12) := (blk_cell BK105.out 12).trans rfl; have hfz14_0 := blk_frozen BK105.out 0; have hfz14_1 := blk_frozen BK105.out 1; have hfz14_2 := blk_frozen BK105.out 2; have hfz14_3 := blk_frozen BK105.out 3; have hfz14_4 := blk_frozen BK105.out 4; have hfz14_5 := blk_frozen BK105.out 5; have hfz14_6 := blk_frozen BK105.out 6; have hfz14_7 := blk_frozen BK105.out 7; have hfz14_8 := blk_frozen BK105.out 8; have hfz14_9 := blk_frozen BK105.out 9; have hfz14_10 := blk_frozen BK105.out 10; have hfz14_11 := blk_frozen BK105.out 11; have hfz14_12 := blk_frozen BK105.out 12; have hcz15_0 : w12.cell? ⟨gb106, 0, none⟩ = some (.int .i64 a1_0) := (blk_cell BK106.out 0).trans rfl; have hcz15_1 : w12.cell? ⟨gb106, 1, none⟩ = some (.bool a1_1) := (blk_cell BK106.out 1).trans rfl; have hcz15_2 : w12.cell? ⟨gb106, 2, none⟩ = some (.int .i64 a1_2) := (blk_cell BK106.out 2).trans rfl; have hcz15_3 : w12.cell? ⟨gb106, 3, none⟩ = some (.bool a1_3) := (blk_cell BK106.out 3).trans rfl; have hcz15_4 : w12.cell? ⟨gb106, 4, none⟩ = some (.bool a1_4) := (blk_cell BK106.out 4).trans rfl; have hcz15_5 : w12.cell? ⟨gb106, 5, none⟩ = some (.bool a1_5) := (blk_cell BK106.out 5).trans rfl; have hcz15_6 : w12.cell? ⟨gb106, 6, none⟩ = some (.bool a1_6) := (blk_cell BK106.out 6).trans rfl; have hcz15_7 : w12.cell? ⟨gb106, 7, none⟩ = some (.int .i64 a1_7) := (blk_cell BK106.out 7).trans rfl; have hcz15_8 : w12.cell? ⟨gb106, 8, none⟩ = some (.int .i64 a1_8) := (blk_cell BK106.out 8).trans rfl; have hcz15_9 : w12.cell? ⟨gb106, 9, none⟩ = some (.slice A1_9 l1_9.length c1_9) := (blk_cell BK106.out 9).trans rfl; have hcz15_10 : w12.cell? ⟨gb106, 10, none⟩ = some (.slice A1_10 l1_10.length c1_10) := (blk_cell BK106.out 10).trans rfl; have hcz15_11 : w12.cell? ⟨gb106, 11, none⟩ = some (.slice A1_11 l1_11.length c1_11) := (blk_cell BK106.out 11).trans rfl; have hcz15_12 : w12.cell? ⟨gb106, 12, none⟩ = some (.slice A1_12 l1_12.length c1_12) := (blk_cell BK106.out 12).trans rfl; have hfz15_0 := blk_frozen BK106.out 0; have hfz15_1 := blk_frozen BK106.out 1; have hfz15_2 := blk_frozen BK106.out 2; have hfz15_3 := blk_frozen BK106.out 3; have hfz15_4 := blk_frozen BK106.out 4; have hfz15_5 := blk_frozen BK106.out 5; have hfz15_6 := blk_frozen BK106.out 6; have hfz15_7 := blk_frozen BK106.out 7; have hfz15_8 := blk_frozen BK106.out 8; have hfz15_9 := blk_frozen BK106.out 9; have hfz15_10 := blk_frozen BK106.out 10; have hfz15_11 := blk_frozen BK106.out 11; have hfz15_12 := blk_frozen BK106.out 12) | (go_at_call 31; (with_reducible refine (wimplelaw0_SameQuestions.calls k _ _ l0_9 _ _ l1_9 true _ ?side1 ?side2 ?side3 ?side4 A4.out).mono ?_); (case side1 => repeat (first | exact (Kd.C_below HR0_9.out HB.out) | (with_reducible refine Kd.C_alloc ?_ _) | (with_reducible refine Kd.C_drewN ?_ _) | (with_reducible refine Kd.C_drew ?_))); (case side2 => exact HC0_9.out); (case side3 => repeat (first | exact (Kd.C_below HR1_9.out HB.out) | (with_reducible refine Kd.C_alloc ?_ _) | (with_reducible refine Kd.C_drewN ?_ _) | (with_reducible refine Kd.C_drew ?_))); (case side4 => exact HC1_9.out); rintro e w' ⟨rfl, ⟨nd, rfl⟩⟩) | (go_at_call 44; (with_reducible refine (wimplelaw0_SameRrs.calls k _ _ l0_10 _ _ l1_10 true _ ?side1 ?side2 ?side3 ?side4 A6.out).mono ?_); (case side1 => repeat (first | exact (Kd.C_below HR0_10.out (by repeat (first | (with_reducible first | exact HB.out | apply below_alloc | apply pw_below_drewN | apply below_drew1 | refine below_set ?_ GE105.out | refine below_set ?_ GE106.out) | exact HB.out))) | (with_reducible refine Kd.C_alloc ?_ _) | (with_reducible refine Kd.C_drewN ?_ _) | (with_reducible refine Kd.C_drew ?_))); (case side2 => exact HC0_10.out); (case side3 => repeat (first | exact (Kd.C_below HR1_10.out (by repeat (first | (with_reducible first | exact HB.out | apply below_alloc | apply pw_below_drewN | apply below_drew1 | refine below_set ?_ GE105.out | refine below_set ?_ GE106.out) | exact HB.out))) | (with_reducible refine Kd.C_alloc ?_ _) | (with_reducible refine Kd.C_drewN ?_ _) | (with_reducible refine Kd.C_drew ?_))); (case side4 => exact HC1_10.out); rintro e w' ⟨rfl, ⟨nd, rfl⟩⟩) | (go_at_call 44; (with_reducible refine (wimplelaw0_SameRrs.calls k _ _ l0_11 _ _ l1_11 true _ ?side1 ?side2 ?side3 ?side4 A8.out).mono ?_); (case side1 => repeat (first | exact (Kd.C_below HR0_11.out (by repeat (first | (with_reducible first | exact HB.out | apply below_alloc | apply pw_below_drewN | apply below_drew1 | refine below_set ?_ GE105.out | refine below_set ?_ GE106.out) | exact HB.out))) | (with_reducible refine Kd.C_alloc ?_ _) | (with_reducible refine Kd.C_drewN ?_ _) | (with_reducible refine Kd.C_drew ?_))); (case side2 => exact HC0_11.out); (case side3 => repeat (first | exact (Kd.C_below HR1_11.out (by repeat (first | (with_reducible first | exact HB.out | apply below_alloc | apply pw_below_drewN | apply below_drew1 | refine below_set ?_ GE105.out | refine below_set ?_ GE106.out) | exact HB.out))) | (with_reducible refine Kd.C_alloc ?_ _) | (with_reducible refine Kd.C_drewN ?_ _) | (with_reducible refine Kd.C_drew ?_))); (case side4 => exact HC1_11.out); rintro e w' ⟨rfl, ⟨nd, rfl⟩⟩) | (go_at_call 44; (with_reducible refine (wimplelaw0_SameRrs.calls k _ _ l0_12 _ _ l1_12 t110 _ ?side1 ?side2 ?side3 ?side4 A10.out).mono ?_); (case side1 => repeat (first | exact (Kd.C_below HR0_12.out (by repeat (first | (with_reducible first | exact HB.out | apply below_alloc | apply pw_below_drewN | apply below_drew1 | refine below_set ?_ GE105.out | refine below_set ?_ GE106.out) | exact HB.out))) | (with_reducible refine Kd.C_alloc ?_ _) | (with_reducible refine Kd.C_drewN ?_ _) | (with_reducible refine Kd.C_drew ?_))); (case side2 => exact HC0_12.out); (case side3 => repeat (first | exact (Kd.C_below HR1_12.out (by repeat (first | (with_reducible first | exact HB.out | apply below_alloc | apply pw_below_drewN | apply below_drew1 | refine below_set ?_ GE105.out | refine below_set ?_ GE106.out) | exact HB.out))) | (with_reducible refine Kd.C_alloc ?_ _) | (with_reducible refine Kd.C_drewN ?_ _) | (with_reducible refine Kd.C_drew ?_))); (case side4 => exact HC1_12.out); rintro e w' ⟨rfl, ⟨nd, rfl⟩⟩))
          go_ret
          exact ⟨by first | rfl | (simp [errW_none, errW_some] <;> rfl) | (simp [*, errW_none, errW_some] <;> rfl), by repeat (first | (with_reducible first | exact HB.out | apply below_alloc | apply pw_below_drewN | apply below_drew1 | refine below_set ?_ GE105.out | refine below_set ?_ GE106.out) | exact HB.out)⟩
        · replace c9 := Bool.eq_false_iff.mpr c9
          subst c9
          have H1 : (none) = some r := by rw [if_neg (show ¬ (false = true) by decide)] at H; exact H
          clear H
          have H := H1
          clear H1
          exact absurd H (by simp)
      · replace c7 := Bool.eq_false_iff.mpr c7
        subst c7
        have H1 : (none) = some r := by rw [if_neg (show ¬ (false = true) by decide)] at H; exact H
        clear H
        have H := H1
        clear H1
        exact absurd H (by simp)
    · replace c5 := Bool.eq_false_iff.mpr c5
      subst c5
      have H1 : (none) = some r := by rw [if_neg (show ¬ (false = true) by decide)] at H; exact H
      clear H
      have H := H1
      clear H1
      exact absurd H (by simp)
  · rw [if_neg c3] at H
    exact absurd H (by simp)

end Go.Proofs.Ytjklgdpffmaamaa.PSm

namespace Go.Proofs.Ytjklgdpffmaamaa.MsgW
open Go.RowKit Go.PlainAid Go.Maps Go.Proofs.Ytjklgdpffmaamaa.Base Go.Proofs.Ytjklgdpffmaamaa.Oct Go.Proofs.Ytjklgdpffmaamaa.Nm Go.Proofs.Ytjklgdpffmaamaa.Wr Go.Proofs.Ytjklgdpffmaamaa.Wm Go.Proofs.Ytjklgdpffmaamaa.PSm Go.Proofs.Ytjklgdpffmaamaa.Pu
open Go.Proofs.YtjklgdpffmaamaaW.PrintWords (blk_cell blk_below blk_put blk_frozen blk_ne blk_new blk_lt blk_grown LeO Ev Kd Kd.R_reads' own_nil)
set_option linter.unusedVariables false
set_option linter.unusedSimpArgs false
theorem sameQ_at (l : List S40) (hl : l.length ≤ 1000000) : ∀ n i, l.length - i ≤ n → i ≤ l.length → Ev (fun k => wimplelaw0_SameQuestions.l0 k l l (i : Int)) true := by
  intro n
  induction n with
  | zero => intro i h h2; exact Ev.step (fun k => by rw [wimplelaw0_SameQuestions.l0]) (Ev.neg (by omega) (Ev.now _))
  | succ n ih =>
    intro i h h2
    by_cases hi : i < l.length
    · refine Ev.step (fun k => by rw [wimplelaw0_SameQuestions.l0]) (Ev.pos (by omega) (Ev.pos (by omega) (Ev.pos (by omega) (Ev.neg (by simp) ?_))))
      rw [Pu.w64 (by omega) (by omega), show (i : Int) + 1 = ((i + 1 : Nat) : Int) by omega]
      exact ih (i + 1) (by omega) (by omega)
    · exact Ev.step (fun k => by rw [wimplelaw0_SameQuestions.l0]) (Ev.neg (by omega) (Ev.now _))
theorem sameQ (l : List S40) (hl : l.length ≤ 1000000) : Ev (fun k => wimplelaw0_SameQuestions.f k l l) true := Ev.pos rfl (sameQ_at l hl _ 0 (Nat.le_refl _) (by omega))
theorem sameR_at (l : List S53) (hl : l.length ≤ 1000000) : ∀ n i, l.length - i ≤ n → i ≤ l.length → Ev (fun k => wimplelaw0_SameRrs.l0 k l l (i : Int)) true := by
  intro n
  induction n with
  | zero => intro i h h2; exact Ev.step (fun k => by rw [wimplelaw0_SameRrs.l0]) (Ev.neg (by omega) (Ev.now _))
  | succ n ih =>
    intro i h h2
    by_cases hi : i < l.length
    · refine Ev.step (fun k => by rw [wimplelaw0_SameRrs.l0]) (Ev.pos (by omega) (Ev.pos (by omega) (Ev.pos (by omega) (Ev.neg (by simp) ?_))))
      rw [Pu.w64 (by omega) (by omega), show (i : Int) + 1 = ((i + 1 : Nat) : Int) by omega]
      exact ih (i + 1) (by omega) (by omega)
    · exact Ev.step (fun k => by rw [wimplelaw0_SameRrs.l0]) (Ev.neg (by omega) (Ev.now _))
theorem sameR (l : List S53) (hl : l.length ≤ 1000000) : Ev (fun k => wimplelaw0_SameRrs.f k l l) true := Ev.pos rfl (sameR_at l hl _ 0 (Nat.le_refl _) (by omega))
theorem sameM (id : Int) (qr : Bool) (op : Int) (aa tc rd ra : Bool) (z rc : Int) (qs : List S40) (an ns ar : List S53) (h1 : qs.length ≤ 1000000) (h2 : an.length ≤ 1000000) (h3 : ns.length ≤ 1000000) (h4 : ar.length ≤ 1000000) :
    Ev (fun k => wimplelaw0_SameMsg.f k id qr op aa tc rd ra z rc qs an ns ar id qr op aa tc rd ra z rc qs an ns ar) true :=
  Ev.pos (by simp) (Ev.bind (sameQ qs h1) (Ev.pos rfl (Ev.bind (sameR an h2) (Ev.pos rfl (Ev.bind (sameR ns h3) (Ev.pos rfl (Ev.bind (sameR ar h4) (Ev.now _))))))))
theorem len_cases (s : ByteArray) : ∃ g : Got, Ev (fun k => getV k s) g ∧ g.qs.length ≤ 64 ∧ g.an.length ≤ 64 ∧ g.ns.length ≤ 64 ∧ g.ar.length ≤ 64 := by
  obtain ⟨g, hg, ht⟩ := getV_cases s
  refine ⟨g, hg, ?_⟩
  rcases ht with rfl | ⟨he, hz, hok, _⟩
  · exact ⟨Nat.zero_le _, Nat.zero_le _, Nat.zero_le _, Nat.zero_le _⟩
  · obtain ⟨_, _, n, _⟩ := putOk_parts hok
    exact n
theorem put_sizes {m : MsgV} (h : putE m = 0) : 12 ≤ (putS m).size ∧ (putS m).size ≤ 4096 := by
  by_cases H : putOk m = true ∧ (putEnd m).lg = false
  · obtain ⟨s1, s2, s3, s4⟩ := put_S H.1 H.2
    exact ⟨by rw [s1]; exact s3, by rw [s1]; exact s4⟩
  · obtain ⟨_, s2⟩ := put_err H
    rcases s2 with ⟨h', _⟩ | ⟨h', _⟩ <;> rw [h'] at h <;> exact absurd h (by decide)
def sQ (x : Qn) : S40 := ⟨x.name, x.type, x.cls⟩
def sR (x : Rr) : S53 := ⟨x.name, x.type, x.cls, x.ttl, x.data⟩
/-- The rows of what was read lie in a world. -/
structure Holds (W : World) (g : Got) (vq va vn vr : Value) : Prop where
  q : W.ownsRow 0 40 3 vq g.qs.length (cellsQ g.qs)
  a : W.ownsRow 0 53 5 va g.an.length (cellsR g.an)
  n : W.ownsRow 0 53 5 vn g.ns.length (cellsR g.ns)
  r : W.ownsRow 0 53 5 vr g.ar.length (cellsR g.ar)
theorem Holds.below {W W' : World} {g : Got} {vq va vn vr : Value} (h : Holds W g vq va vn vr) (b : Below W.heap.size W W') : Holds W' g vq va vn vr :=
  ⟨Sl.own_below h.q b, Sl.own_below h.a b, Sl.own_below h.n b, Sl.own_below h.r b⟩
theorem got_holds {s : ByteArray} {w w' : World} {g : Got} {e : Ending} (h : GetPost s w g e w') : ∃ Aq Aqc Aa Aac An Anc Ar Arc, e = .returned (.tuple #[.agg #[.int .i64 g.h.id, .bool g.h.qr, .int .i64 g.h.op, .bool g.h.aa, .bool g.h.tc, .bool g.h.rd, .bool g.h.ra, .int .i64 g.h.z, .int .i64 g.h.rc, .slice Aq g.qs.length Aqc, .slice Aa g.an.length Aac, .slice An g.ns.length Anc, .slice Ar g.ar.length Arc], .int .i64 g.e]) ∧ Holds w' g (.slice Aq g.qs.length Aqc) (.slice Aa g.an.length Aac) (.slice An g.ns.length Anc) (.slice Ar g.ar.length Arc) ∧ Below w.heap.size w w' := by
  obtain ⟨vq, va, vn, vr, rfl, hq, ha, hn, hr, _, _, _, hb⟩ := h
  obtain ⟨Aq, cq, rfl⟩ := Sl.own_slice hq
  obtain ⟨Aa, ca, rfl⟩ := Sl.own_slice ha
  obtain ⟨An, cn, rfl⟩ := Sl.own_slice hn
  obtain ⟨Ar, cr, rfl⟩ := Sl.own_slice hr
  exact ⟨Aq, cq, Aa, ca, An, cn, Ar, cr, rfl, ⟨own_lower hq (Nat.zero_le _), own_lower ha (Nat.zero_le _), own_lower hn (Nat.zero_le _), own_lower hr (Nat.zero_le _)⟩, hb⟩
theorem qC {w : World} {A : Option Addr} {c : Nat} {qs : List Qn} (h : w.ownsRow 0 40 3 (.slice A qs.length c) qs.length (cellsQ qs)) : qs.length ≤ c ∧ Kd.C k40 w A (qs.map sQ).length (qs.map sQ) := by
  obtain ⟨_, h1, h2⟩ := Kd.R_reads' (qkd k40 40 sQ (fun w base ok q => k40_mkM w base ok (sQ q)) rfl h (ok := fun _ => True) (fun _ _ => trivial))
  exact ⟨h1, h2⟩
theorem rC {w : World} {A : Option Addr} {c : Nat} {qs : List Rr} (h : w.ownsRow 0 53 5 (.slice A qs.length c) qs.length (cellsR qs)) : qs.length ≤ c ∧ Kd.C k53 w A (qs.map sR).length (qs.map sR) := by
  obtain ⟨_, h1, h2⟩ := Kd.R_reads' (rkd k53 53 sR (fun w base ok q => k53_mkM w base ok (sR q)) rfl h (ok := fun _ => True) (fun _ _ => trivial))
  exact ⟨h1, h2⟩
theorem same2 {W : World} {g : Got} (hl : g.qs.length ≤ 64 ∧ g.an.length ≤ 64 ∧ g.ns.length ≤ 64 ∧ g.ar.length ≤ 64) {Aq Aa An Ar Bq Ba Bn Br : Option Addr} {Aqc Aac Anc Arc Bqc Bac Bnc Brc : Nat}
    (h : Holds W g (.slice Aq g.qs.length Aqc) (.slice Aa g.an.length Aac) (.slice An g.ns.length Anc) (.slice Ar g.ar.length Arc)) (k : Holds W g (.slice Bq g.qs.length Bqc) (.slice Ba g.an.length Bac) (.slice Bn g.ns.length Bnc) (.slice Br g.ar.length Brc)) :
    Calls Try.prog 20 #[.agg #[.int .i64 g.h.id, .bool g.h.qr, .int .i64 g.h.op, .bool g.h.aa, .bool g.h.tc, .bool g.h.rd, .bool g.h.ra, .int .i64 g.h.z, .int .i64 g.h.rc, .slice Aq g.qs.length Aqc, .slice Aa g.an.length Aac, .slice An g.ns.length Anc, .slice Ar g.ar.length Arc], .agg #[.int .i64 g.h.id, .bool g.h.qr, .int .i64 g.h.op, .bool g.h.aa, .bool g.h.tc, .bool g.h.rd, .bool g.h.ra, .int .i64 g.h.z, .int .i64 g.h.rc, .slice Bq g.qs.length Bqc, .slice Ba g.an.length Bac, .slice Bn g.ns.length Bnc, .slice Br g.ar.length Brc]] W fun e w' => e = .returned (.bool true) ∧ Below W.heap.size W w' := by
  obtain ⟨K, hK⟩ := sameM g.h.id g.h.qr g.h.op g.h.aa g.h.tc g.h.rd g.h.ra g.h.z g.h.rc (g.qs.map sQ) (g.an.map sR) (g.ns.map sR) (g.ar.map sR) (by rw [List.length_map]; omega) (by rw [List.length_map]; omega) (by rw [List.length_map]; omega) (by rw [List.length_map]; omega)
  have := wimplelaw0_SameMsg.calls K g.h.id g.h.qr g.h.op g.h.aa g.h.tc g.h.rd g.h.ra g.h.z g.h.rc Aq Aqc (g.qs.map sQ) Aa Aac (g.an.map sR) An Anc (g.ns.map sR) Ar Arc (g.ar.map sR) g.h.id g.h.qr g.h.op g.h.aa g.h.tc g.h.rd g.h.ra g.h.z g.h.rc Bq Bqc (g.qs.map sQ) Ba Bac (g.an.map sR) Bn Bnc (g.ns.map sR) Br Brc (g.ar.map sR) true W
    (qC h.q).2 (by rw [List.length_map]; exact (qC h.q).1) (rC h.a).2 (by rw [List.length_map]; exact (rC h.a).1) (rC h.n).2 (by rw [List.length_map]; exact (rC h.n).1) (rC h.r).2 (by rw [List.length_map]; exact (rC h.r).1)
    (qC k.q).2 (by rw [List.length_map]; exact (qC k.q).1) (rC k.a).2 (by rw [List.length_map]; exact (rC k.a).1) (rC k.n).2 (by rw [List.length_map]; exact (rC k.n).1) (rC k.r).2 (by rw [List.length_map]; exact (rC k.r).1) (hK K (Nat.le_refl _))
  simpa only [List.length_map] using this
theorem one_own {w : World} {b : Nat} {q : Qn} (h : w.heap[b]? = some (.cells #[.string q.name, .int .i64 q.type, .int .i64 q.cls] 40 (0, 0))) : w.ownsRow 0 40 3 (.slice (some ⟨b, 0, none⟩) 1 1) 1 (cellsQ [q]) :=
  ⟨rfl, .inr ⟨b, 1, _, rfl, Nat.zero_le _, h, Nat.le_refl _, by decide, rfl, rfl⟩⟩
theorem one_ownR {w : World} {b : Nat} {r : Rr} (h : w.heap[b]? = some (.cells #[.string r.name, .int .i64 r.type, .int .i64 r.cls, .int .i64 r.ttl, .string r.data] 53 (0, 0))) : w.ownsRow 0 53 5 (.slice (some ⟨b, 0, none⟩) 1 1) 1 (cellsR [r]) :=
  ⟨rfl, .inr ⟨b, 1, _, rfl, Nat.zero_le _, h, Nat.le_refl _, by decide, rfl, rfl⟩⟩
theorem one_q {w : World} {b : Nat} {q : Qn} (h : w.heap[b]? = some (.cells #[.string q.name, .int .i64 q.type, .int .i64 q.cls] 40 (0, 0))) : QCells w (some ⟨b, 0, none⟩) [q] :=
  .inr ⟨_, rfl, fun j hj => by
    obtain rfl : j = 0 := by simpa using hj
    exact ⟨(blk_cell h 0).trans rfl, (blk_cell h 1).trans rfl, (blk_cell h 2).trans rfl⟩⟩
theorem one_r {w : World} {b : Nat} {r : Rr} (h : w.heap[b]? = some (.cells #[.string r.name, .int .i64 r.type, .int .i64 r.cls, .int .i64 r.ttl, .string r.data] 53 (0, 0))) : RCells w (some ⟨b, 0, none⟩) [r] :=
  .inr ⟨_, rfl, fun j hj => by
    obtain rfl : j = 0 := by simpa using hj
    exact ⟨(blk_cell h 0).trans rfl, (blk_cell h 1).trans rfl, (blk_cell h 2).trans rfl, (blk_cell h 3).trans rfl, (blk_cell h 4).trans rfl⟩⟩
theorem getVc {s : ByteArray} {r : Got} (hs : s.size ≤ 9223372036854775000) (h : Ev (fun k => getV k s) r) (w : World) : Calls Try.prog 35 #[.string s] w (GetPost s w r) := by
  obtain ⟨k, hk⟩ := h
  exact getc s w hs (hk k (Nat.le_refl _))
end Go.Proofs.Ytjklgdpffmaamaa.MsgW

namespace Go.Proofs.Ytjklgdpffmaamaa.Awake7
open Go.RowKit Go.PlainAid Go.Maps Go.Proofs.Ytjklgdpffmaamaa.Base Go.Proofs.Ytjklgdpffmaamaa.Oct Go.Proofs.Ytjklgdpffmaamaa.Nm Go.Proofs.Ytjklgdpffmaamaa.Wm Go.Proofs.Ytjklgdpffmaamaa.MsgW
open Go.Proofs.YtjklgdpffmaamaaW.PrintWords (blk_cell blk_below blk_put blk_frozen blk_ne blk_new blk_lt blk_grown LeO Ev own_nil)
set_option linter.unusedVariables false
set_option linter.unusedSimpArgs false
def q7 : Qn := ⟨⟨#[1, 97, 0]⟩, 1, 1⟩
def r7 : Rr := ⟨⟨#[1, 97, 0]⟩, 1, 1, 5, ⟨#[97, 98, 99, 100]⟩⟩
def m7 : MsgV := msgOf Hd.head0 [q7] [r7] [] []
def G7 : Got := ⟨Hd.head0, [q7], [r7], [], [], 0⟩
def s7 : ByteArray := putS m7
def q8 : Qn := ⟨⟨#[]⟩, 0, 0⟩
def m8 : MsgV := msgOf Hd.head0 [q8] [] [] []
theorem e7 : putE m7 = 0 := by decide +kernel
theorem e8 : putE m8 = 700 := by decide +kernel
theorem z7 : s7.size = 35 := by decide +kernel
theorem ok7 : putOk m7 = true := by decide +kernel
theorem lg7 : (putEnd m7).lg = false := by decide +kernel
theorem get7 : Ev (fun k => getV k s7) G7 := by
  have h := get_put ok7 lg7 ⟨#[]⟩ (by rw [app_nil]; exact (put_S ok7 lg7).2.2.2)
  rw [app_nil, if_pos (show (⟨#[]⟩ : ByteArray).size = 0 from rfl)] at h
  unfold s7
  rw [(put_S ok7 lg7).1]
  exact h
theorem get7a : Ev (fun k => getV k (s7 ++ ⟨#[97]⟩)) (got0 700) := by
  have e : s7 = (putEnd m7).S := (put_S ok7 lg7).1
  have h := get_put ok7 lg7 ⟨#[97]⟩ (by rw [← e, ByteArray.size_append, z7]; decide)
  rw [if_neg (show ¬ (⟨#[97]⟩ : ByteArray).size = 0 by decide)] at h
  rw [e]
  exact h
theorem get7b (s : ByteArray) (h : 4096 < s.size) : Ev (fun k => getV k s) (got0 701) := Pu.Ev.pos h (Ev.now _)
theorem small7 : small [r7] := by intro r hr; rw [List.mem_singleton.1 hr]; decide +kernel
theorem small0 : small [] := by intro r hr; cases hr
/-- The world behind the message's literal. -/
def W3 (w : World) : World := ((w.alloc (.cells #[.string q7.name, .int .i64 q7.type, .int .i64 q7.cls] 40)).alloc (.cells #[.string r7.name, .int .i64 r7.type, .int .i64 r7.cls, .int .i64 r7.ttl, .string r7.data] 53)).alloc (.cells #[.int .i64 0, .bool false, .int .i64 0, .bool false, .bool false, .bool false, .bool false, .int .i64 0, .int .i64 0, .slice (some ⟨w.heap.size, 0, none⟩) 1 1, .slice (some ⟨w.heap.size + 1, 0, none⟩) 1 1, .slice none 0 0, .slice none 0 0] 27)
theorem w3 (w : World) : Below w.heap.size w (W3 w) ∧ (W3 w).heap[w.heap.size]? = some (.cells #[.string q7.name, .int .i64 q7.type, .int .i64 q7.cls] 40 (0, 0)) ∧ (W3 w).heap[w.heap.size + 1]? = some (.cells #[.string r7.name, .int .i64 r7.type, .int .i64 r7.cls, .int .i64 r7.ttl, .string r7.data] 53 (0, 0)) ∧ (W3 w).heap[w.heap.size + 1 + 1]? = some (.cells #[.int .i64 0, .bool false, .int .i64 0, .bool false, .bool false, .bool false, .bool false, .int .i64 0, .int .i64 0, .slice (some ⟨w.heap.size, 0, none⟩) 1 1, .slice (some ⟨w.heap.size + 1, 0, none⟩) 1 1, .slice none 0 0, .slice none 0 0] 27 (0, 0)) := by
  have e1 : (w.alloc (.cells #[.string q7.name, .int .i64 q7.type, .int .i64 q7.cls] 40)).heap.size = w.heap.size + 1 := by simp
  have e2 : ((w.alloc (.cells #[.string q7.name, .int .i64 q7.type, .int .i64 q7.cls] 40)).alloc (.cells #[.string r7.name, .int .i64 r7.type, .int .i64 r7.cls, .int .i64 r7.ttl, .string r7.data] 53)).heap.size = w.heap.size + 1 + 1 := by simp
  refine ⟨(((Below.refl _ _).alloc (Nat.le_refl _) _).alloc (by simp) _).alloc (by simp; omega) _, ?_, ?_, ?_⟩
  · exact Go.Proofs.YtjklgdpffmaamaaW.PrintWords.blk_alloc (Go.Proofs.YtjklgdpffmaamaaW.PrintWords.blk_alloc (blk_new w _) _) _
  · rw [← e1]; exact Go.Proofs.YtjklgdpffmaamaaW.PrintWords.blk_alloc (blk_new (w.alloc (.cells #[.string q7.name, .int .i64 q7.type, .int .i64 q7.cls] 40)) _) _
  · rw [← e2]; exact blk_new ((w.alloc (.cells #[.string q7.name, .int .i64 q7.type, .int .i64 q7.cls] 40)).alloc (.cells #[.string r7.name, .int .i64 r7.type, .int .i64 r7.cls, .int .i64 r7.ttl, .string r7.data] 53)) _
set_option maxHeartbeats 8000000 in
set_option maxRecDepth 100000 in
theorem walk (w : World) : Calls Try.prog 33 #[] w fun e w' => e = .returned (.bool true) ∧ Below w.heap.size w w' := by
  have kz : ∀ W : World, (Instr.makeSlice 56 (.int .i64 4097) (.int .i64 4097)).run Try.prog W = .ok (.slice (some ⟨W.heap.size, 0, none⟩) 4097 4097) (W.alloc (.cells (madeCells #[.int .u8 0] 4097) 5)) := make_zeros 4097 (by decide)
  have kv := conv_zeros 4097
  have n0 := fun w => Hd.numc 0 w
  have n7 := fun w => Hd.numc 700 w
  have n8 := fun w => Hd.numc 701 w
  obtain ⟨Bx, bq, br, bm⟩ := w3 w
  have zz := z7
  go_enter Try.func33, Try.ntmps33
  go_upto_region 2 with (fail)
  change Code.wp _ _ _ _ (W3 w)
  generalize W3 w = w1 at *
  have c0 : w1.cell? ⟨w.heap.size + 1 + 1, 0, none⟩ = some (.int .i64 0) := (blk_cell bm 0).trans rfl
  have c1 : w1.cell? ⟨w.heap.size + 1 + 1, 1, none⟩ = some (.bool false) := (blk_cell bm 1).trans rfl
  have c2 : w1.cell? ⟨w.heap.size + 1 + 1, 2, none⟩ = some (.int .i64 0) := (blk_cell bm 2).trans rfl
  have c3 : w1.cell? ⟨w.heap.size + 1 + 1, 3, none⟩ = some (.bool false) := (blk_cell bm 3).trans rfl
  have c4 : w1.cell? ⟨w.heap.size + 1 + 1, 4, none⟩ = some (.bool false) := (blk_cell bm 4).trans rfl
  have c5 : w1.cell? ⟨w.heap.size + 1 + 1, 5, none⟩ = some (.bool false) := (blk_cell bm 5).trans rfl
  have c6 : w1.cell? ⟨w.heap.size + 1 + 1, 6, none⟩ = some (.bool false) := (blk_cell bm 6).trans rfl
  have c7 : w1.cell? ⟨w.heap.size + 1 + 1, 7, none⟩ = some (.int .i64 0) := (blk_cell bm 7).trans rfl
  have c8 : w1.cell? ⟨w.heap.size + 1 + 1, 8, none⟩ = some (.int .i64 0) := (blk_cell bm 8).trans rfl
  have c9 : w1.cell? ⟨w.heap.size + 1 + 1, 9, none⟩ = some (.slice (some ⟨w.heap.size, 0, none⟩) 1 1) := (blk_cell bm 9).trans rfl
  have c10 : w1.cell? ⟨w.heap.size + 1 + 1, 10, none⟩ = some (.slice (some ⟨w.heap.size + 1, 0, none⟩) 1 1) := (blk_cell bm 10).trans rfl
  have c11 : w1.cell? ⟨w.heap.size + 1 + 1, 11, none⟩ = some (.slice none 0 0) := (blk_cell bm 11).trans rfl
  have c12 : w1.cell? ⟨w.heap.size + 1 + 1, 12, none⟩ = some (.slice none 0 0) := (blk_cell bm 12).trans rfl
  have kp : Calls Try.prog 34 _ w1 fun e w' => e = .returned (.tuple #[.string s7, .int .i64 (putE m7)]) ∧ Below w1.heap.size w1 w' := putc ⟨Hd.head0, some ⟨w.heap.size, 0, none⟩, 1, [q7], some ⟨w.heap.size + 1, 0, none⟩, 1, [r7], none, 0, [], none, 0, []⟩ w1 ⟨one_q bq, one_r br, .inl rfl, .inl rfl, Nat.le_refl _, Nat.le_refl _, Nat.le_refl _, Nat.le_refl _, small7, small0, small0⟩
  rw [e7] at kp
  go_wp2_with fail
  refine kp.mono ?_
  rintro e w2 ⟨rfl, hb⟩
  replace Bx := Bx.trans (hb.mono Bx.size)
  replace bm := blk_below bm hb
  have HM : Holds w2 G7 (.slice (some ⟨w.heap.size, 0, none⟩) 1 1) (.slice (some ⟨w.heap.size + 1, 0, none⟩) 1 1) (.slice none 0 0) (.slice none 0 0) :=
    ⟨one_own (blk_below bq hb), one_ownR (blk_below br hb), own_nil _ _ _ _, own_nil _ _ _ _⟩
  clear hb kp bq br c0 c1 c2 c3 c4 c5 c6 c7 c8 c9 c10 c11 c12
  have k1 := fun w => getVc (s := s7) (by rw [z7]; decide) get7 w
  have k2 := fun w => getVc (s := s7 ++ ⟨#[97]⟩) (by rw [ByteArray.size_append, z7]; decide) get7a w
  have k4 := fun w => getVc (s := zeros 4097) (by rw [zeros_size]; decide) (get7b _ (by rw [zeros_size]; decide)) w
  have nG := fun w => Hd.numc G7.e w
  have nB := fun w => Hd.numc (got0 700).e w
  have nD := fun w => Hd.numc (got0 701).e w
  have qG : (G7.e == 0) = true := rfl
  have qB : ((got0 700).e == 700) = true := rfl
  have qD : ((got0 701).e == 701) = true := rfl
  generalize s7 = t at *
  go_wp2_with fail
  refine (k1 _).mono ?_
  rintro e w3 hh
  obtain ⟨Aq, Aqc, Aa, Aac, An, Anc, Ar, Arc, rfl, HA, hb⟩ := got_holds hh
  replace Bx := Bx.trans (hb.mono Bx.size)
  replace bm := blk_below bm hb
  replace HM := HM.below hb
  have hb2 : Below w3.heap.size w3 (w3.alloc (.cells #[.int .i64 G7.h.id, .bool G7.h.qr, .int .i64 G7.h.op, .bool G7.h.aa, .bool G7.h.tc, .bool G7.h.rd, .bool G7.h.ra, .int .i64 G7.h.z, .int .i64 G7.h.rc, .slice Aq G7.qs.length Aqc, .slice Aa G7.an.length Aac, .slice An G7.ns.length Anc, .slice Ar G7.ar.length Arc] 27)) := (Below.refl _ _).alloc (Nat.le_refl _) _
  have bA := blk_new w3 (.cells #[.int .i64 G7.h.id, .bool G7.h.qr, .int .i64 G7.h.op, .bool G7.h.aa, .bool G7.h.tc, .bool G7.h.rd, .bool G7.h.ra, .int .i64 G7.h.z, .int .i64 G7.h.rc, .slice Aq G7.qs.length Aqc, .slice Aa G7.an.length Aac, .slice An G7.ns.length Anc, .slice Ar G7.ar.length Arc] 27)
  clear hh hb
  go_upto_region 4 with (fail)
  replace Bx := Bx.trans (hb2.mono Bx.size)
  replace bm := blk_below bm hb2
  replace HM := HM.below hb2
  replace HA := HA.below hb2
  clear hb2
  generalize w3.alloc (.cells #[.int .i64 G7.h.id, .bool G7.h.qr, .int .i64 G7.h.op, .bool G7.h.aa, .bool G7.h.tc, .bool G7.h.rd, .bool G7.h.ra, .int .i64 G7.h.z, .int .i64 G7.h.rc, .slice Aq G7.qs.length Aqc, .slice Aa G7.an.length Aac, .slice An G7.ns.length Anc, .slice Ar G7.ar.length Arc] 27) = w4 at *
  obtain ⟨gA, hgA⟩ : ∃ k, k = w3.heap.size := ⟨_, rfl⟩
  rw [← hgA] at bA ⊢
  clear hgA
  have nn : ¬ 9223372036854775807 < t.size + 1 := by omega
  go_wp2_with fail
  refine (k2 _).mono ?_
  rintro e w5 hh
  obtain ⟨Bq, Bqc, Ba, Bac, Bn, Bnc, Br, Brc, rfl, HB, hb⟩ := got_holds hh
  replace Bx := Bx.trans (hb.mono Bx.size)
  replace bm := blk_below bm hb
  replace bA := blk_below bA hb
  replace HM := HM.below hb
  replace HA := HA.below hb
  have hb2 : Below w5.heap.size w5 (w5.alloc (.cells #[.int .i64 (got0 700).h.id, .bool (got0 700).h.qr, .int .i64 (got0 700).h.op, .bool (got0 700).h.aa, .bool (got0 700).h.tc, .bool (got0 700).h.rd, .bool (got0 700).h.ra, .int .i64 (got0 700).h.z, .int .i64 (got0 700).h.rc, .slice Bq (got0 700).qs.length Bqc, .slice Ba (got0 700).an.length Bac, .slice Bn (got0 700).ns.length Bnc, .slice Br (got0 700).ar.length Brc] 27)) := (Below.refl _ _).alloc (Nat.le_refl _) _
  have bB := blk_new w5 (.cells #[.int .i64 (got0 700).h.id, .bool (got0 700).h.qr, .int .i64 (got0 700).h.op, .bool (got0 700).h.aa, .bool (got0 700).h.tc, .bool (got0 700).h.rd, .bool (got0 700).h.ra, .int .i64 (got0 700).h.z, .int .i64 (got0 700).h.rc, .slice Bq (got0 700).qs.length Bqc, .slice Ba (got0 700).an.length Bac, .slice Bn (got0 700).ns.length Bnc, .slice Br (got0 700).ar.length Brc] 27)
  clear hh hb
  go_upto_region 5 with (fail)
  replace Bx := Bx.trans (hb2.mono Bx.size)
  replace bm := blk_below bm hb2
  replace bA := blk_below bA hb2
  replace HM := HM.below hb2
  replace HA := HA.below hb2
  replace HB := HB.below hb2
  clear hb2
  generalize w5.alloc (.cells #[.int .i64 (got0 700).h.id, .bool (got0 700).h.qr, .int .i64 (got0 700).h.op, .bool (got0 700).h.aa, .bool (got0 700).h.tc, .bool (got0 700).h.rd, .bool (got0 700).h.ra, .int .i64 (got0 700).h.z, .int .i64 (got0 700).h.rc, .slice Bq (got0 700).qs.length Bqc, .slice Ba (got0 700).an.length Bac, .slice Bn (got0 700).ns.length Bnc, .slice Br (got0 700).ar.length Brc] 27) = w6 at *
  obtain ⟨gB, hgB⟩ : ∃ k, k = w5.heap.size := ⟨_, rfl⟩
  rw [← hgB] at bB ⊢
  clear hgB
  clear HB bB k1 k2 nn
  go_wp2_with fail
  have hb2 : Below w6.heap.size w6 (w6.alloc (.cells #[.string q8.name, .int .i64 q8.type, .int .i64 q8.cls] 40)) := (Below.refl _ _).alloc (Nat.le_refl _) _
  have bq := blk_new w6 (.cells #[.string q8.name, .int .i64 q8.type, .int .i64 q8.cls] 40)
  have kp : Calls Try.prog 34 _ _ fun e w' => e = .returned (.tuple #[.string (putS m8), .int .i64 (putE m8)]) ∧ Below (w6.alloc (.cells #[.string q8.name, .int .i64 q8.type, .int .i64 q8.cls] 40)).heap.size (w6.alloc (.cells #[.string q8.name, .int .i64 q8.type, .int .i64 q8.cls] 40)) w' := putc ⟨Hd.head0, some ⟨w6.heap.size, 0, none⟩, 1, [q8], none, 0, [], none, 0, [], none, 0, []⟩ (w6.alloc (.cells #[.string q8.name, .int .i64 q8.type, .int .i64 q8.cls] 40)) ⟨one_q bq, .inl rfl, .inl rfl, .inl rfl, Nat.le_refl _, Nat.le_refl _, Nat.le_refl _, Nat.le_refl _, small0, small0, small0⟩
  rw [e8] at kp
  refine kp.mono ?_
  rintro e w7 ⟨rfl, hb⟩
  replace hb := hb2.trans (hb.mono hb2.size)
  replace Bx := Bx.trans (hb.mono Bx.size)
  replace bm := blk_below bm hb
  replace bA := blk_below bA hb
  replace HM := HM.below hb
  replace HA := HA.below hb
  clear hb hb2 kp bq
  go_wp2_with fail
  refine (k4 _).mono ?_
  rintro e w8 hh
  have hbz : Below w7.heap.size w7 (w7.alloc (.cells (madeCells #[.int .u8 0] 4097) 5)) := (Below.refl _ _).alloc (Nat.le_refl _) _
  replace Bx := Bx.trans (hbz.mono Bx.size)
  replace bm := blk_below bm hbz
  replace bA := blk_below bA hbz
  replace HM := HM.below hbz
  replace HA := HA.below hbz
  clear hbz kz kv k4
  obtain ⟨Dq, Dqc, Da, Dac, Dn, Dnc, Dr, Drc, rfl, HD, hb⟩ := got_holds hh
  replace Bx := Bx.trans (hb.mono Bx.size)
  replace bm := blk_below bm hb
  replace bA := blk_below bA hb
  replace HM := HM.below hb
  replace HA := HA.below hb
  have hb2 : Below w8.heap.size w8 (w8.alloc (.cells #[.int .i64 (got0 701).h.id, .bool (got0 701).h.qr, .int .i64 (got0 701).h.op, .bool (got0 701).h.aa, .bool (got0 701).h.tc, .bool (got0 701).h.rd, .bool (got0 701).h.ra, .int .i64 (got0 701).h.z, .int .i64 (got0 701).h.rc, .slice Dq (got0 701).qs.length Dqc, .slice Da (got0 701).an.length Dac, .slice Dn (got0 701).ns.length Dnc, .slice Dr (got0 701).ar.length Drc] 27)) := (Below.refl _ _).alloc (Nat.le_refl _) _
  have bD := blk_new w8 (.cells #[.int .i64 (got0 701).h.id, .bool (got0 701).h.qr, .int .i64 (got0 701).h.op, .bool (got0 701).h.aa, .bool (got0 701).h.tc, .bool (got0 701).h.rd, .bool (got0 701).h.ra, .int .i64 (got0 701).h.z, .int .i64 (got0 701).h.rc, .slice Dq (got0 701).qs.length Dqc, .slice Da (got0 701).an.length Dac, .slice Dn (got0 701).ns.length Dnc, .slice Dr (got0 701).ar.length Drc] 27)
  clear hh hb
  go_upto_region 7 with (fail)
  replace Bx := Bx.trans (hb2.mono Bx.size)
  replace bm := blk_below bm hb2
  replace bA := blk_below bA hb2
  replace HM := HM.below hb2
  replace HA := HA.below hb2
  replace HD := HD.below hb2
  clear hb2
  generalize w8.alloc (.cells #[.int .i64 (got0 701).h.id, .bool (got0 701).h.qr, .int .i64 (got0 701).h.op, .bool (got0 701).h.aa, .bool (got0 701).h.tc, .bool (got0 701).h.rd, .bool (got0 701).h.ra, .int .i64 (got0 701).h.z, .int .i64 (got0 701).h.rc, .slice Dq (got0 701).qs.length Dqc, .slice Da (got0 701).an.length Dac, .slice Dn (got0 701).ns.length Dnc, .slice Dr (got0 701).ar.length Drc] 27) = w9 at *
  obtain ⟨gD, hgD⟩ : ∃ k, k = w8.heap.size := ⟨_, rfl⟩
  rw [← hgD] at bD ⊢
  clear hgD
  clear HD bD
  go_wp2_with fail
  refine (n0 _).mono ?_
  rintro e w10 ⟨rfl, rfl⟩
  have a0 : w9.cell? ⟨gA, 0, none⟩ = some (.int .i64 G7.h.id) := (blk_cell bA 0).trans rfl
  have a1 : w9.cell? ⟨gA, 1, none⟩ = some (.bool G7.h.qr) := (blk_cell bA 1).trans rfl
  have a2 : w9.cell? ⟨gA, 2, none⟩ = some (.int .i64 G7.h.op) := (blk_cell bA 2).trans rfl
  have a3 : w9.cell? ⟨gA, 3, none⟩ = some (.bool G7.h.aa) := (blk_cell bA 3).trans rfl
  have a4 : w9.cell? ⟨gA, 4, none⟩ = some (.bool G7.h.tc) := (blk_cell bA 4).trans rfl
  have a5 : w9.cell? ⟨gA, 5, none⟩ = some (.bool G7.h.rd) := (blk_cell bA 5).trans rfl
  have a6 : w9.cell? ⟨gA, 6, none⟩ = some (.bool G7.h.ra) := (blk_cell bA 6).trans rfl
  have a7 : w9.cell? ⟨gA, 7, none⟩ = some (.int .i64 G7.h.z) := (blk_cell bA 7).trans rfl
  have a8 : w9.cell? ⟨gA, 8, none⟩ = some (.int .i64 G7.h.rc) := (blk_cell bA 8).trans rfl
  have a9 : w9.cell? ⟨gA, 9, none⟩ = some (.slice Aq G7.qs.length Aqc) := (blk_cell bA 9).trans rfl
  have a10 : w9.cell? ⟨gA, 10, none⟩ = some (.slice Aa G7.an.length Aac) := (blk_cell bA 10).trans rfl
  have a11 : w9.cell? ⟨gA, 11, none⟩ = some (.slice An G7.ns.length Anc) := (blk_cell bA 11).trans rfl
  have a12 : w9.cell? ⟨gA, 12, none⟩ = some (.slice Ar G7.ar.length Arc) := (blk_cell bA 12).trans rfl
  have c0 : w9.cell? ⟨w.heap.size + 1 + 1, 0, none⟩ = some (.int .i64 0) := (blk_cell bm 0).trans rfl
  have c1 : w9.cell? ⟨w.heap.size + 1 + 1, 1, none⟩ = some (.bool false) := (blk_cell bm 1).trans rfl
  have c2 : w9.cell? ⟨w.heap.size + 1 + 1, 2, none⟩ = some (.int .i64 0) := (blk_cell bm 2).trans rfl
  have c3 : w9.cell? ⟨w.heap.size + 1 + 1, 3, none⟩ = some (.bool false) := (blk_cell bm 3).trans rfl
  have c4 : w9.cell? ⟨w.heap.size + 1 + 1, 4, none⟩ = some (.bool false) := (blk_cell bm 4).trans rfl
  have c5 : w9.cell? ⟨w.heap.size + 1 + 1, 5, none⟩ = some (.bool false) := (blk_cell bm 5).trans rfl
  have c6 : w9.cell? ⟨w.heap.size + 1 + 1, 6, none⟩ = some (.bool false) := (blk_cell bm 6).trans rfl
  have c7 : w9.cell? ⟨w.heap.size + 1 + 1, 7, none⟩ = some (.int .i64 0) := (blk_cell bm 7).trans rfl
  have c8 : w9.cell? ⟨w.heap.size + 1 + 1, 8, none⟩ = some (.int .i64 0) := (blk_cell bm 8).trans rfl
  have c9 : w9.cell? ⟨w.heap.size + 1 + 1, 9, none⟩ = some (.slice (some ⟨w.heap.size, 0, none⟩) 1 1) := (blk_cell bm 9).trans rfl
  have c10 : w9.cell? ⟨w.heap.size + 1 + 1, 10, none⟩ = some (.slice (some ⟨w.heap.size + 1, 0, none⟩) 1 1) := (blk_cell bm 10).trans rfl
  have c11 : w9.cell? ⟨w.heap.size + 1 + 1, 11, none⟩ = some (.slice none 0 0) := (blk_cell bm 11).trans rfl
  have c12 : w9.cell? ⟨w.heap.size + 1 + 1, 12, none⟩ = some (.slice none 0 0) := (blk_cell bm 12).trans rfl
  have ks : Calls Try.prog 20 #[.agg #[.int .i64 G7.h.id, .bool G7.h.qr, .int .i64 G7.h.op, .bool G7.h.aa, .bool G7.h.tc, .bool G7.h.rd, .bool G7.h.ra, .int .i64 G7.h.z, .int .i64 G7.h.rc, .slice Aq G7.qs.length Aqc, .slice Aa G7.an.length Aac, .slice An G7.ns.length Anc, .slice Ar G7.ar.length Arc], .agg #[.int .i64 0, .bool false, .int .i64 0, .bool false, .bool false, .bool false, .bool false, .int .i64 0, .int .i64 0, .slice (some ⟨w.heap.size, 0, none⟩) 1 1, .slice (some ⟨w.heap.size + 1, 0, none⟩) 1 1, .slice none 0 0, .slice none 0 0]] w9 fun e w' => e = .returned (.bool true) ∧ Below w9.heap.size w9 w' := same2 (g := G7) ⟨by decide, by decide, by decide, by decide⟩ HA HM
  go_wp2_with fail
  refine ks.mono ?_
  rintro e w11 ⟨rfl, hb⟩
  replace Bx := Bx.trans (hb.mono Bx.size)
  clear hb ks HA HM bA bm
  go_wp2_with fail
  refine (nG _).mono ?_
  rintro e w12 ⟨rfl, rfl⟩
  go_wp2_with fail
  refine (nB _).mono ?_
  rintro e w13 ⟨rfl, rfl⟩
  go_wp2_with fail
  refine (n7 _).mono ?_
  rintro e w14 ⟨rfl, rfl⟩
  go_wp2_with fail
  refine (nD _).mono ?_
  rintro e w15 ⟨rfl, rfl⟩
  go_wp2_with fail
  go_ret
  exact ⟨rfl, Bx⟩
end Go.Proofs.Ytjklgdpffmaamaa.Awake7

namespace Go.Proofs.Ytjklgdpffmaamaa.TurnedW
open Go.RowKit Go.PlainAid Go.Maps Go.Proofs.Ytjklgdpffmaamaa.Base Go.Proofs.Ytjklgdpffmaamaa.Oct Go.Proofs.Ytjklgdpffmaamaa.Nm Go.Proofs.Ytjklgdpffmaamaa.Wm Go.Proofs.Ytjklgdpffmaamaa.PSm Go.Proofs.Ytjklgdpffmaamaa.MsgW Go.Proofs.Ytjklgdpffmaamaa.OkzSm
open Go.Proofs.YtjklgdpffmaamaaW.PrintWords (blk_cell blk_below blk_put blk_frozen blk_ne blk_new blk_lt blk_grown LeO Ev Kd Kd.R_reads')
set_option linter.unusedVariables false
set_option linter.unusedSimpArgs false
def wm_Q4 (x : S40) : Qn := ⟨x.f0, x.f1, x.f2⟩
def wm_R4 (x : S53) : Rr := ⟨x.f0, x.f1, x.f2, x.f3, x.f4⟩
theorem small_map {l : List S53} (h : ∀ x ∈ l, x.f4.size ≤ 9223372036854775000) : smallB (l.map wm_R4) = true := by
  unfold smallB
  rw [List.all_eq_true]
  intro r hr
  obtain ⟨x, hx, rfl⟩ := List.mem_map.1 hr
  exact decide_eq_true (h x hx)
theorem xor_u8 (a b : Int) : ∃ v : Nat, v < 256 ∧ Go.bits .xor .u8 a b = (v : Int) := by
  have h : ∀ x : Int, IntKind.u8.wrap x = x % 256 := fun x => by simp [IntKind.wrap, IntKind.bits, IntKind.signed]
  unfold Go.bits
  simp only [h]
  generalize ((BitVec.ofInt IntKind.u8.bits a ^^^ BitVec.ofInt IntKind.u8.bits b).toNat : Int) = X
  exact ⟨(X % 256).toNat, by omega, by omega⟩
set_option maxHeartbeats 8000000 in
set_option maxRecDepth 100000 in
theorem walk (m : MsgV) (at_ by_ : Int) (w : World) (hm : m.Lies w) : Calls Try.prog 12 #[.agg m.cells, .int .i64 at_, .int .i64 by_] w fun e w' => e = .returned (.bool true) ∧ Below w.heap.size w w' := by
  have ka := Awake7.walk
  have kp := rputc m
  have Bx : Below w.heap.size w (w.alloc (.cells m.cells 27)) := (Below.refl _ _).alloc (Nat.le_refl _) _
  have b3 := blk_new w (.cells m.cells 27)
  have hm1 := hm.below Bx
  go_enter Try.func12, Try.ntmps12
  go_wp2_with fail
  refine (ka _).mono ?_
  rintro e w1 ⟨rfl, hb⟩
  replace Bx := Bx.trans (hb.mono Bx.size)
  replace b3 := blk_below b3 hb
  replace hm1 := hm1.below hb
  clear hb ka hm
  have c0 : w1.cell? ⟨w.heap.size, 0, none⟩ = some (.int .i64 m.h.id) := (blk_cell b3 0).trans rfl
  have c1 : w1.cell? ⟨w.heap.size, 1, none⟩ = some (.bool m.h.qr) := (blk_cell b3 1).trans rfl
  have c2 : w1.cell? ⟨w.heap.size, 2, none⟩ = some (.int .i64 m.h.op) := (blk_cell b3 2).trans rfl
  have c3 : w1.cell? ⟨w.heap.size, 3, none⟩ = some (.bool m.h.aa) := (blk_cell b3 3).trans rfl
  have c4 : w1.cell? ⟨w.heap.size, 4, none⟩ = some (.bool m.h.tc) := (blk_cell b3 4).trans rfl
  have c5 : w1.cell? ⟨w.heap.size, 5, none⟩ = some (.bool m.h.rd) := (blk_cell b3 5).trans rfl
  have c6 : w1.cell? ⟨w.heap.size, 6, none⟩ = some (.bool m.h.ra) := (blk_cell b3 6).trans rfl
  have c7 : w1.cell? ⟨w.heap.size, 7, none⟩ = some (.int .i64 m.h.z) := (blk_cell b3 7).trans rfl
  have c8 : w1.cell? ⟨w.heap.size, 8, none⟩ = some (.int .i64 m.h.rc) := (blk_cell b3 8).trans rfl
  have c9 : w1.cell? ⟨w.heap.size, 9, none⟩ = some (.slice m.Aq m.qs.length m.cq) := (blk_cell b3 9).trans rfl
  have c10 : w1.cell? ⟨w.heap.size, 10, none⟩ = some (.slice m.Aa m.an.length m.ca) := (blk_cell b3 10).trans rfl
  have c11 : w1.cell? ⟨w.heap.size, 11, none⟩ = some (.slice m.An m.ns.length m.cn) := (blk_cell b3 11).trans rfl
  have c12 : w1.cell? ⟨w.heap.size, 12, none⟩ = some (.slice m.Ar m.ar.length m.cr) := (blk_cell b3 12).trans rfl
  go_wp2_with fail
  refine (kp w1 hm1).mono ?_
  rintro e w2 ⟨rfl, hb⟩
  replace Bx := Bx.trans (hb.mono Bx.size)
  clear hb kp hm1 b3 c0 c1 c2 c3 c4 c5 c6 c7 c8 c9 c10 c11 c12
  by_cases h0 : putE m = 0
  case neg =>
    have t0 : (putE m != 0) = true := by simpa using h0
    clear h0
    go_wp2_with fail
    go_ret
    exact ⟨rfl, Bx⟩
  have t0 : (putE m != 0) = false := by simpa using h0
  obtain ⟨z1, z2⟩ := put_sizes h0
  have hl : ∀ L : List UInt8, L.length = (putS m).size → ∃ g, Ev (fun k => getV k ⟨L.toArray⟩) g ∧ g.qs.length ≤ 64 ∧ g.an.length ≤ 64 ∧ g.ns.length ≤ 64 ∧ g.ar.length ≤ 64 := fun L _ => len_cases _
  clear h0
  generalize putE m = te at *
  have HL := Lib.hid hl
  clear hl
  generalize putS m = t at *
  have kc := fun w => Lib.run_convert_string_bytes (P := Try.prog) w 9 56 5 t Try.underlying9 Try.underlying56 Try.underlying5
  have u1 : IntKind.u64.wrap (t.size : Int) = (t.size : Int) := Pu.wraps_u64 _ (by omega) (by omega)
  have c0 : 0 ≤ IntKind.u64.wrap at_ := by rw [Pu.u64_wrap]; omega
  obtain ⟨i, hi, hit⟩ : ∃ i : Nat, i < t.size ∧ (IntKind.u64.wrap at_).tmod (t.size : Int) = (i : Int) := by
    rw [Int.tmod_eq_emod_of_nonneg c0]
    have m0 := Int.emod_nonneg (IntKind.u64.wrap at_) (show (t.size : Int) ≠ 0 by omega)
    have m1 := Int.emod_lt_of_pos (IntKind.u64.wrap at_) (show (0 : Int) < (t.size : Int) by omega)
    exact ⟨((IntKind.u64.wrap at_) % (t.size : Int)).toNat, by omega, by omega⟩
  go_upto_region 7 with (fail)
  obtain ⟨Bm, hI, hz⟩ := BRow.made w2 5 t
  have Bx0 := Bx
  replace Bx := Bx.trans (Bm.mono Bx.size)
  have gB := Bx0.size
  generalize Lib.bytesWorld w2 5 t = w3 at *
  generalize grownCap w2 t.size 0 5 = cap at *
  generalize w2.heap.size = g at *
  clear kc Bm hz c0 t0 Bx0
  have hlen : t.data.toList.length = t.size := Base.len_data t
  have cI := hI.cell i (by rw [hlen]; exact hi)
  have fI := hI.free i (by rw [hlen]; exact hi)
  have i1 : (0 : Int) ≤ (i : Int) := by omega
  have i2 : (i : Int) < (t.size : Int) := by omega
  go_upto_region 9 with (fail)
  obtain ⟨v, hv, ev⟩ := xor_u8 ((t.data[i]'hi).toNat : Int) (wrap64 (1 + wrap64 ((IntKind.u64.wrap by_).tmod 255)) % 256)
  rw [ev]
  have H1 : BRow.Is (w3.setCell ⟨g, i, none⟩ (.int .u8 (v : Int))) 5 g (t.data.toList.set i (UInt8.ofNat v)) := by
    have := hI.set i (by rw [hlen]; exact hi) (UInt8.ofNat v)
    rwa [UInt8.toNat_ofNat', Nat.mod_eq_of_lt (by omega)] at this
  have hl2 : (t.data.toList.set i (UInt8.ofNat v)).length = t.size := by rw [List.length_set, hlen]
  obtain ⟨r, hr, lr⟩ := HL.out _ hl2
  have zr : (⟨(t.data.toList.set i (UInt8.ofNat v)).toArray⟩ : ByteArray).size ≤ 9223372036854775000 := by
    show (t.data.toList.set i (UInt8.ofNat v)).toArray.size ≤ _
    rw [List.size_toArray, hl2]; omega
  have kb := fun (W : World) (h : BRow.Is W 5 g (t.data.toList.set i (UInt8.ofNat v))) => h.back (P := Try.prog) 56 9 cap t.size Try.underlying56 Try.underlying5 Try.underlying9 hl2.symm
  generalize t.data.toList.set i (UInt8.ofNat v) = L at *
  have k1 := fun w => getVc zr hr w
  have k2 := fun w => rgetVc zr hr w
  have n1 := fun w => Hd.numc r.e w
  have q1 : (r.e == r.e) = true := by simp
  replace Bx := Bx.setCell (p := ⟨g, i, none⟩) gB (.int .u8 (v : Int))
  generalize w3.setCell ⟨g, i, none⟩ (.int .u8 (v : Int)) = w4 at *
  clear hr zr cI fI hI i1 i2 hit u1 ev hv HL
  have kb4 := kb _ H1
  generalize (⟨L.toArray⟩ : ByteArray) = t2 at *
  go_wp2_with fail
  refine (k1 _).mono ?_
  rintro e w5 hh
  obtain ⟨Aq, Aqc, Aa, Aac, An, Anc, Ar, Arc, rfl, HA, hb⟩ := got_holds hh
  replace Bx := Bx.trans (hb.mono Bx.size)
  replace H1 := H1.below hb
  have hb2 : Below w5.heap.size w5 (w5.alloc (.cells #[.int .i64 r.h.id, .bool r.h.qr, .int .i64 r.h.op, .bool r.h.aa, .bool r.h.tc, .bool r.h.rd, .bool r.h.ra, .int .i64 r.h.z, .int .i64 r.h.rc, .slice Aq r.qs.length Aqc, .slice Aa r.an.length Aac, .slice An r.ns.length Anc, .slice Ar r.ar.length Arc] 27)) := (Below.refl _ _).alloc (Nat.le_refl _) _
  have bA := blk_new w5 (.cells #[.int .i64 r.h.id, .bool r.h.qr, .int .i64 r.h.op, .bool r.h.aa, .bool r.h.tc, .bool r.h.rd, .bool r.h.ra, .int .i64 r.h.z, .int .i64 r.h.rc, .slice Aq r.qs.length Aqc, .slice Aa r.an.length Aac, .slice An r.ns.length Anc, .slice Ar r.ar.length Arc] 27)
  clear hh hb
  go_upto_region 10 with (fail)
  replace Bx := Bx.trans (hb2.mono Bx.size)
  replace H1 := H1.below hb2
  replace HA := HA.below hb2
  clear hb2
  generalize w5.alloc (.cells #[.int .i64 r.h.id, .bool r.h.qr, .int .i64 r.h.op, .bool r.h.aa, .bool r.h.tc, .bool r.h.rd, .bool r.h.ra, .int .i64 r.h.z, .int .i64 r.h.rc, .slice Aq r.qs.length Aqc, .slice Aa r.an.length Aac, .slice An r.ns.length Anc, .slice Ar r.ar.length Arc] 27) = w6 at *
  obtain ⟨gA, hgA⟩ : ∃ k, k = w5.heap.size := ⟨_, rfl⟩
  rw [← hgA] at bA ⊢
  clear hgA
  have kb6 := kb _ H1
  clear kb4 k1
  go_wp2_with fail
  refine (k2 _).mono ?_
  rintro e w7 hh
  obtain ⟨Bq, Bqc, Ba, Bac, Bn, Bnc, Br, Brc, rfl, HB, hb⟩ := got_holds hh
  replace Bx := Bx.trans (hb.mono Bx.size)
  replace HA := HA.below hb
  replace bA := blk_below bA hb
  have hb2 : Below w7.heap.size w7 (w7.alloc (.cells #[.int .i64 r.h.id, .bool r.h.qr, .int .i64 r.h.op, .bool r.h.aa, .bool r.h.tc, .bool r.h.rd, .bool r.h.ra, .int .i64 r.h.z, .int .i64 r.h.rc, .slice Bq r.qs.length Bqc, .slice Ba r.an.length Bac, .slice Bn r.ns.length Bnc, .slice Br r.ar.length Brc] 27)) := (Below.refl _ _).alloc (Nat.le_refl _) _
  have bB := blk_new w7 (.cells #[.int .i64 r.h.id, .bool r.h.qr, .int .i64 r.h.op, .bool r.h.aa, .bool r.h.tc, .bool r.h.rd, .bool r.h.ra, .int .i64 r.h.z, .int .i64 r.h.rc, .slice Bq r.qs.length Bqc, .slice Ba r.an.length Bac, .slice Bn r.ns.length Bnc, .slice Br r.ar.length Brc] 27)
  clear hh hb
  go_upto_region 11 with (fail)
  replace Bx := Bx.trans (hb2.mono Bx.size)
  replace HA := HA.below hb2
  replace HB := HB.below hb2
  replace bA := blk_below bA hb2
  clear hb2
  generalize w7.alloc (.cells #[.int .i64 r.h.id, .bool r.h.qr, .int .i64 r.h.op, .bool r.h.aa, .bool r.h.tc, .bool r.h.rd, .bool r.h.ra, .int .i64 r.h.z, .int .i64 r.h.rc, .slice Bq r.qs.length Bqc, .slice Ba r.an.length Bac, .slice Bn r.ns.length Bnc, .slice Br r.ar.length Brc] 27) = w8 at *
  obtain ⟨gB, hgB⟩ : ∃ k, k = w7.heap.size := ⟨_, rfl⟩
  rw [← hgB] at bB ⊢
  clear hgB
  have a0 : w8.cell? ⟨gA, 0, none⟩ = some (.int .i64 r.h.id) := (blk_cell bA 0).trans rfl
  have a1 : w8.cell? ⟨gA, 1, none⟩ = some (.bool r.h.qr) := (blk_cell bA 1).trans rfl
  have a2 : w8.cell? ⟨gA, 2, none⟩ = some (.int .i64 r.h.op) := (blk_cell bA 2).trans rfl
  have a3 : w8.cell? ⟨gA, 3, none⟩ = some (.bool r.h.aa) := (blk_cell bA 3).trans rfl
  have a4 : w8.cell? ⟨gA, 4, none⟩ = some (.bool r.h.tc) := (blk_cell bA 4).trans rfl
  have a5 : w8.cell? ⟨gA, 5, none⟩ = some (.bool r.h.rd) := (blk_cell bA 5).trans rfl
  have a6 : w8.cell? ⟨gA, 6, none⟩ = some (.bool r.h.ra) := (blk_cell bA 6).trans rfl
  have a7 : w8.cell? ⟨gA, 7, none⟩ = some (.int .i64 r.h.z) := (blk_cell bA 7).trans rfl
  have a8 : w8.cell? ⟨gA, 8, none⟩ = some (.int .i64 r.h.rc) := (blk_cell bA 8).trans rfl
  have a9 : w8.cell? ⟨gA, 9, none⟩ = some (.slice Aq r.qs.length Aqc) := (blk_cell bA 9).trans rfl
  have a10 : w8.cell? ⟨gA, 10, none⟩ = some (.slice Aa r.an.length Aac) := (blk_cell bA 10).trans rfl
  have a11 : w8.cell? ⟨gA, 11, none⟩ = some (.slice An r.ns.length Anc) := (blk_cell bA 11).trans rfl
  have a12 : w8.cell? ⟨gA, 12, none⟩ = some (.slice Ar r.ar.length Arc) := (blk_cell bA 12).trans rfl
  have b0 : w8.cell? ⟨gB, 0, none⟩ = some (.int .i64 r.h.id) := (blk_cell bB 0).trans rfl
  have b1 : w8.cell? ⟨gB, 1, none⟩ = some (.bool r.h.qr) := (blk_cell bB 1).trans rfl
  have b2 : w8.cell? ⟨gB, 2, none⟩ = some (.int .i64 r.h.op) := (blk_cell bB 2).trans rfl
  have b3 : w8.cell? ⟨gB, 3, none⟩ = some (.bool r.h.aa) := (blk_cell bB 3).trans rfl
  have b4 : w8.cell? ⟨gB, 4, none⟩ = some (.bool r.h.tc) := (blk_cell bB 4).trans rfl
  have b5 : w8.cell? ⟨gB, 5, none⟩ = some (.bool r.h.rd) := (blk_cell bB 5).trans rfl
  have b6 : w8.cell? ⟨gB, 6, none⟩ = some (.bool r.h.ra) := (blk_cell bB 6).trans rfl
  have b7 : w8.cell? ⟨gB, 7, none⟩ = some (.int .i64 r.h.z) := (blk_cell bB 7).trans rfl
  have b8 : w8.cell? ⟨gB, 8, none⟩ = some (.int .i64 r.h.rc) := (blk_cell bB 8).trans rfl
  have b9 : w8.cell? ⟨gB, 9, none⟩ = some (.slice Bq r.qs.length Bqc) := (blk_cell bB 9).trans rfl
  have b10 : w8.cell? ⟨gB, 10, none⟩ = some (.slice Ba r.an.length Bac) := (blk_cell bB 10).trans rfl
  have b11 : w8.cell? ⟨gB, 11, none⟩ = some (.slice Bn r.ns.length Bnc) := (blk_cell bB 11).trans rfl
  have b12 : w8.cell? ⟨gB, 12, none⟩ = some (.slice Br r.ar.length Brc) := (blk_cell bB 12).trans rfl
  clear kb6 kb k2 H1
  go_wp2_with fail
  refine (same2 lr HA HB).mono ?_
  rintro e w9 ⟨rfl, hb⟩
  replace Bx := Bx.trans (hb.mono Bx.size)
  clear hb HA HB bA bB
  go_wp2_with fail
  refine (n1 _).mono ?_
  rintro e w10 ⟨rfl, rfl⟩
  go_wp2_with fail
  go_ret
  exact ⟨rfl, Bx⟩
set_option maxRecDepth 100000 in
/-- As the row wants it. -/
theorem hcalls (x : S27) (at_ by_ : Int) (W : World) (A1 : Option Addr) (c1 : Nat) (A2 : Option Addr) (c2 : Nat) (A3 : Option Addr) (c3 : Nat) (A4 : Option Addr) (c4 : Nat)
    (h1 : Kd.C k40 W A1 x.f1.length x.f1) (l1 : x.f1.length ≤ c1) (h2 : Kd.C k53 W A2 x.f2.length x.f2) (l2 : x.f2.length ≤ c2) (h3 : Kd.C k53 W A3 x.f3.length x.f3) (l3 : x.f3.length ≤ c3) (h4 : Kd.C k53 W A4 x.f4.length x.f4) (l4 : x.f4.length ≤ c4)
    (hx : ok27 x) (ha : (Lit.int .i64 at_).wf = true) (hb : (Lit.int .i64 by_).wf = true) :
    Calls Try.prog 12 #[.agg #[.int .i64 x.f0.f0, .bool x.f0.f1, .int .i64 x.f0.f2, .bool x.f0.f3, .bool x.f0.f4, .bool x.f0.f5, .bool x.f0.f6, .int .i64 x.f0.f7, .int .i64 x.f0.f8, .slice A1 x.f1.length c1, .slice A2 x.f2.length c2, .slice A3 x.f3.length c3, .slice A4 x.f4.length c4], .int .i64 at_, .int .i64 by_] W fun e w' => e = .returned (.bool true) ∧ Below W.heap.size W w' := by
  have e2 : small (x.f2.map wm_R4) := small_of (small_map fun y hy => Nat.le_trans (hx.2.2.1.2 y hy).2.2.2.2 (by decide))
  have e3 : small (x.f3.map wm_R4) := small_of (small_map fun y hy => Nat.le_trans (hx.2.2.2.1.2 y hy).2.2.2.2 (by decide))
  have e4 : small (x.f4.map wm_R4) := small_of (small_map fun y hy => Nat.le_trans (hx.2.2.2.2.2 y hy).2.2.2.2 (by decide))
  have := walk ⟨⟨x.f0.f0, x.f0.f1, x.f0.f2, x.f0.f3, x.f0.f4, x.f0.f5, x.f0.f6, x.f0.f7, x.f0.f8⟩, A1, c1, x.f1.map wm_Q4, A2, c2, x.f2.map wm_R4, A3, c3, x.f3.map wm_R4, A4, c4, x.f4.map wm_R4⟩ at_ by_ W
    ⟨qcells_of wm_Q4 h1 (fun x cs h => k40_open h), rcells_of wm_R4 h2 (fun x cs h => k53_open h), rcells_of wm_R4 h3 (fun x cs h => k53_open h), rcells_of wm_R4 h4 (fun x cs h => k53_open h),
      by rw [List.length_map]; exact l1, by rw [List.length_map]; exact l2, by rw [List.length_map]; exact l3, by rw [List.length_map]; exact l4, e2, e3, e4⟩
  simp only [MsgV.cells, List.length_map] at this
  exact this
end Go.Proofs.Ytjklgdpffmaamaa.TurnedW

namespace Go.Proofs.Ytjklgdpffmaamaa.wireTurned
open Go.ChangeShapes Go.WideShapes Go.ChangeAt Go.RowKit Go.Proofs.YtjklgdpffmaamaaW.PrintWords Go.Proofs.Ytjklgdpffmaamaa.PSm Go.Proofs.Ytjklgdpffmaamaa.OpenZd Go.Proofs.Ytjklgdpffmaamaa.OkzSm
open Go.ChangeMaps (open_string shut_string)
set_option linter.unusedVariables false
theorem own : ownKnob Try.prog.godebug = none := by kernel_rfl
theorem laidOut : laidOutB Try.prog = true := by kernel_rfl
set_option maxRecDepth 100000 in
theorem contract (H : Type) (enc : TypeId × Value → H) (W : World) (base : Nat) (args : Array Value) (ds gs : List (DataW H)) (before : List MemPlace)
    (hval : ∀ (j : Nat) t v, Try.f12.params[j]? = some t → args[j]? = some v → Value.okWide Try.prog W .any base t v)
    (hW : DataW.Whole enc Try.prog Try.f12.params.toList Rows.wireTurnedSpec.vars false W args.toList ds gs before) (hsz : (DataW.weightsEach Try.prog (Try.f12.params.toList ++ Rows.wireTurnedSpec.plain.varTypes Try.prog) (ds ++ gs)).all (· ≤ reachBytes) = true) :
    Calls Try.prog 12 args W fun e W' => ∃ v, e = .returned v ∧ Rows.wireTurnedSpec.post enc Try.prog Try.f12 false true false false W args v W' := by
  have hW' := hW
  obtain ⟨p, q, hA0, hV, rfl, hfz, hnd⟩ := hW
  have hA : DataW.TrodAll enc Try.prog W 0 (fun _ => true) true Try.f12.params.toList args.toList ds p := hA0
  rw [Try.params12] at hA hval hsz
  obtain ⟨v0, vs0, d0, ds0, p0, q0, hargs, rfl, rfl, h0, r0⟩ := trodAll_cons hA
  obtain ⟨v1, vs1, d1, ds1, p1, q1, rfl, rfl, rfl, h1, r1⟩ := trodAll_cons r0
  obtain ⟨v2, vs2, d2, ds2, p2, q2, rfl, rfl, rfl, h2, r2⟩ := trodAll_cons r1
  obtain ⟨rfl, rfl, rfl⟩ := trodAll_nil r2
  obtain rfl : args = #[v0, v1, v2] := by cases args; simp_all
  obtain ⟨rfl, rfl⟩ := trodVars_none hV
  have k0 := h0
  have lt0 : ∀ x ∈ p0, x.block < W.heap.size := by obtain ⟨m, hm⟩ := k0; exact DataW.trod_lt m _ _ _ hm
  obtain ⟨fuel0, hf0⟩ := h0
  have light0 : Light Try.prog 27 d0 := light_each Try.prog hsz (j := 0) rfl rfl
  obtain ⟨cs0, rfl, hs0⟩ := okWide_struct Try.underlying27 (hval 0 27 v0 rfl rfl)
  have hf0' : DataW.trod enc Try.prog W 0 (fun _ => true) true fuel0 27 cs0.toList = some (d0, p0) := by simpa [Value.cells] using hf0
  obtain ⟨x0, e0, o0⟩ := opens27 enc W 0 (fun _ => true) true _ _ _ hf0' light0
  have e0' := e0
  generalize hcs0 : cs0.toList = l0 at e0'
  obtain ⟨z0_0, t0_0, rfl, g0_0, r0_0⟩ := e0'
  obtain ⟨z0_0_0, t0_0_0, rfl, g0_0_0, r0_0_0⟩ := g0_0
  obtain rfl := g0_0_0
  obtain ⟨z0_0_1, t0_0_1, rfl, g0_0_1, r0_0_1⟩ := r0_0_0
  obtain rfl := g0_0_1
  obtain ⟨z0_0_2, t0_0_2, rfl, g0_0_2, r0_0_2⟩ := r0_0_1
  obtain rfl := g0_0_2
  obtain ⟨z0_0_3, t0_0_3, rfl, g0_0_3, r0_0_3⟩ := r0_0_2
  obtain rfl := g0_0_3
  obtain ⟨z0_0_4, t0_0_4, rfl, g0_0_4, r0_0_4⟩ := r0_0_3
  obtain rfl := g0_0_4
  obtain ⟨z0_0_5, t0_0_5, rfl, g0_0_5, r0_0_5⟩ := r0_0_4
  obtain rfl := g0_0_5
  obtain ⟨z0_0_6, t0_0_6, rfl, g0_0_6, r0_0_6⟩ := r0_0_5
  obtain rfl := g0_0_6
  obtain ⟨z0_0_7, t0_0_7, rfl, g0_0_7, r0_0_7⟩ := r0_0_6
  obtain rfl := g0_0_7
  obtain rfl := r0_0_7
  obtain ⟨z0_1, t0_1, rfl, g0_1, r0_1⟩ := r0_0
  obtain ⟨A0_1, c0_1, rfl, hl0_1, hC0_1⟩ := g0_1
  obtain ⟨z0_2, t0_2, rfl, g0_2, r0_2⟩ := r0_1
  obtain ⟨A0_2, c0_2, rfl, hl0_2, hC0_2⟩ := g0_2
  obtain ⟨z0_3, t0_3, rfl, g0_3, r0_3⟩ := r0_2
  obtain ⟨A0_3, c0_3, rfl, hl0_3, hC0_3⟩ := g0_3
  obtain ⟨A0_4, c0_4, rfl, hl0_4, hC0_4⟩ := r0_3
  obtain rfl : cs0 = #[.int .i64 x0.f0.f0, .bool x0.f0.f1, .int .i64 x0.f0.f2, .bool x0.f0.f3, .bool x0.f0.f4, .bool x0.f0.f5, .bool x0.f0.f6, .int .i64 x0.f0.f7, .int .i64 x0.f0.f8, .slice A0_1 x0.f1.length c0_1, .slice A0_2 x0.f2.length c0_2, .slice A0_3 x0.f3.length c0_3, .slice A0_4 x0.f4.length c0_4] := by apply Array.ext'; simpa using hcs0
  have k1 := h1
  have lt1 : ∀ x ∈ p1, x.block < W.heap.size := by obtain ⟨m, hm⟩ := k1; exact DataW.trod_lt m _ _ _ hm
  obtain ⟨fuel1, hf1⟩ := h1
  have light1 : Light Try.prog 3 d1 := light_each Try.prog hsz (j := 1) rfl rfl
  obtain ⟨a1, rfl, _, _, wa1⟩ := open_int Try.underlying3 (hval 1 3 v1 rfl rfl) k1
  obtain ⟨x1, e1, o1⟩ := (opens_int enc Try.prog W 0 (fun _ => true) true Try.underlying3) _ _ _ hf1 light1
  obtain rfl : a1 = x1 := by have e' := List.cons.inj e1; simpa using e'.1
  have k2 := h2
  have lt2 : ∀ x ∈ p2, x.block < W.heap.size := by obtain ⟨m, hm⟩ := k2; exact DataW.trod_lt m _ _ _ hm
  obtain ⟨fuel2, hf2⟩ := h2
  have light2 : Light Try.prog 3 d2 := light_each Try.prog hsz (j := 2) rfl rfl
  obtain ⟨a2, rfl, _, _, wa2⟩ := open_int Try.underlying3 (hval 2 3 v2 rfl rfl) k2
  obtain ⟨x2, e2, o2⟩ := (opens_int enc Try.prog W 0 (fun _ => true) true Try.underlying3) _ _ _ hf2 light2
  obtain rfl : a2 = x2 := by have e' := List.cons.inj e2; simpa using e'.1
  clear hA0
  refine (TurnedW.hcalls x0 a1 a2 W A0_1 c0_1 A0_2 c0_2 A0_3 c0_3 A0_4 c0_4 hC0_1 hl0_1 hC0_2 hl0_2 hC0_3 hl0_3 hC0_4 hl0_4 o0 o1 o2).mono fun e W' ⟨he, hd⟩ => ?_
  have bel : Below W.heap.size W W' := hd
  subst he
  exact ⟨_, rfl, _, _, _, [], _, [], hW', trodAll_mk1 (shut_bool Try.underlying4 _), (trodAll_cons_mk (Below.trod laidOut (by kernel_rfl) (of_decide_eq_true (by kernel_rfl)) k0 bel lt0) (trodAll_cons_mk (Below.trod laidOut (by kernel_rfl) (of_decide_eq_true (by kernel_rfl)) k1 bel lt1) (trodAll_cons_mk (Below.trod laidOut (by kernel_rfl) (of_decide_eq_true (by kernel_rfl)) k2 bel lt2) trodAll_mk0))), rfl, bel.frame _, fun h => by cases h⟩
set_option maxRecDepth 100000 in
theorem lifted (os : Os) (started : os.Started) (H : Type) (enc : TypeId × Value → H) :
    ReturnsInHanded {} Try.checked os 12 .any (Rows.wireTurnedSpec.pre6 enc Try.prog Try.f12 Rows.wireTurnedRow.domain false) (Rows.wireTurnedSpec.post enc Try.prog Try.f12 false true false false) := by
  refine returnsInHanded_of_change_sized (C := Try.checked) own started (by kernel_rfl) Try.func12
    (ChangeSpec.witness6 (enc := enc) (C := Try.checked) false ⟨#[], #[.agg #[.int .i64 0, .bool false, .int .i64 0, .bool false, .bool false, .bool false, .bool false, .int .i64 0, .int .i64 0, .slice none 0 0, .slice none 0 0, .slice none 0 0, .slice none 0 0], .int .i64 0, .int .i64 0], []⟩ 8 (by kernel_rfl) (by kernel_rfl) (by kernel_rfl) (by kernel_rfl)) ?_
  intro W base args ds gs before hval hW _ hsz _
  exact contract H enc W base args ds gs before hval hW hsz
theorem over : Rows.wireTurnedRow.holds Try.pinned (OpenSpec.ofChange Rows.wireTurnedSpec) :=
  OpenClaim.holds_of_wide 12 Try.f12 rfl rfl rfl rfl rfl rfl rfl ⟨rfl, rfl, rfl, rfl, rfl⟩ rfl rfl rfl rfl rfl (by kernel_rfl) Try.func12 (by kernel_rfl)
    (of_decide_eq_true (by kernel_rfl)) (by unfold Func.isWrapper; first | (rw [if_pos (by decide +kernel)]; kernel_rfl) | (rw [if_neg (by decide +kernel)]; exact ⟨rfl, rfl⟩))
    (fun os started H enc _ => lifted os started H enc)
end Go.Proofs.Ytjklgdpffmaamaa.wireTurned
namespace Go.Proofs.Ytjklgdpffmaamaa
theorem wireTurned_holds : Rows.WireTurnedSaid := wireTurned.over
end Go.Proofs.Ytjklgdpffmaamaa
