/- '==' of headers and of four counts, each against itself; the error's number; contracts with what is returned written out. -/
import Derived.Test.YtccnckppkkhoeaaHeadRef
import Derived.Test.YtccnckppkkhoeaaHeadGet
import Derived.Laws.StructEq
import Derived.ChangeKeysEq
namespace Go.Proofs.Ytccnckppkkhoeaa.Hd
open Go.RowKit Go.PlainAid Go.Proofs.Ytccnckppkkhoeaa.Base Go.Proofs.Ytccnckppkkhoeaa.Oct
set_option linter.unusedVariables false

theorem eqf_cons {P : Program} {d : Nat} {xs ys : Array Value} {f : Field} {fs : List Field} {a b : Value} {r s : Bool} {w : World} (hn : (f.name == "_") = false) (ha : (part f.type xs f.offset).run P w = .ok a w) (hb : (part f.type ys f.offset).run P w = .ok b w) (he : (Op.equalIn d f.type a b).run P w = .ok r w) (hr : (Op.eqFields d xs ys fs).run P w = .ok s w) : (Op.eqFields d xs ys (f :: fs)).run P w = .ok (r && s) w := by
  have hn' : f.name ≠ "_" := by simpa using hn
  rw [Op.eqFields]
  simp only [if_pos hn', Sem.run_bind, ha, hb, he, Result.andThen_ok]
  cases r
  · simp
  · simpa using hr
theorem eqf_nil {P : Program} {d : Nat} {xs ys : Array Value} {w : World} : (Op.eqFields d xs ys []).run P w = .ok true w := by simp [Op.eqFields]
theorem eqA_of {P : Program} {d : Nat} {xs ys : Array Value} {r : Bool} {w : World} {t : TypeId} {fs : Array Field} (hu : P.underlying t = some (.struct fs)) (hp : P.stoodInHeld t = false) (h : (Op.eqFields d xs ys fs.toList).run P w = .ok r w) : (Op.equalIn (d + 1) t (.agg xs) (.agg ys)).run P w = .ok r w := by
  have hf : P.fieldsOf t = fs := by simp [Program.fieldsOf, hu]
  rw [run_equalIn_struct (P := P) w d t xs ys (by rw [hf]; exact hu) hp, hf]
  exact h

/-- Are two headers the same? -/
def Head.eqB (x y : Head) : Bool := x.id == y.id && (x.qr == y.qr && (x.op == y.op && (x.aa == y.aa && (x.tc == y.tc && (x.rd == y.rd && (x.ra == y.ra && (x.z == y.z && (x.rc == y.rc && true))))))))
theorem eqB_self (x : Head) : x.eqB x = true := by simp [Head.eqB]
theorem eqB_of {x y : Head} (h : x = y) : x.eqB y = true := by subst h; exact eqB_self x
theorem eqHead (x y : Head) (w : World) : (Op.equalIn 10000 36 (.agg #[.int .i64 x.id, .bool x.qr, .int .i64 x.op, .bool x.aa, .bool x.tc, .bool x.rd, .bool x.ra, .int .i64 x.z, .int .i64 x.rc]) (.agg #[.int .i64 y.id, .bool y.qr, .int .i64 y.op, .bool y.aa, .bool y.tc, .bool y.rd, .bool y.ra, .int .i64 y.z, .int .i64 y.rc])).run Try.prog w = .ok (x.eqB y) w := by
  refine eqA_of Try.underlying36 (by kernel_rfl) ?_
  unfold Head.eqB
  refine eqf_cons (by rfl) (by go_simp; rfl) (by go_simp; rfl) (by go_simp) ?_
  refine eqf_cons (by rfl) (by go_simp; rfl) (by go_simp; rfl) (by go_simp) ?_
  refine eqf_cons (by rfl) (by go_simp; rfl) (by go_simp; rfl) (by go_simp) ?_
  refine eqf_cons (by rfl) (by go_simp; rfl) (by go_simp; rfl) (by go_simp) ?_
  refine eqf_cons (by rfl) (by go_simp; rfl) (by go_simp; rfl) (by go_simp) ?_
  refine eqf_cons (by rfl) (by go_simp; rfl) (by go_simp; rfl) (by go_simp) ?_
  refine eqf_cons (by rfl) (by go_simp; rfl) (by go_simp; rfl) (by go_simp) ?_
  refine eqf_cons (by rfl) (by go_simp; rfl) (by go_simp; rfl) (by go_simp) ?_
  refine eqf_cons (by rfl) (by go_simp; rfl) (by go_simp; rfl) (by go_simp) ?_
  exact eqf_nil
theorem eqArr (a b c d : Int) (w : World) : (Op.equalIn 10000 37 (.agg #[.int .i64 a, .int .i64 b, .int .i64 c, .int .i64 d]) (.agg #[.int .i64 a, .int .i64 b, .int .i64 c, .int .i64 d])).run Try.prog w = .ok true w := by
  obtain ⟨i, hi⟩ := Option.isSome_iff_exists.1 (show (Try.prog.info? 3).isSome = true by kernel_rfl)
  have e : ∀ (x : Int) w, (Op.equalIn 9999 3 (.int .i64 x) (.int .i64 x)).run Try.prog w = .ok true w := fun x w => by
    rw [show (9999 : Nat) = 9998 + 1 from rfl, run_equalIn_int w 9998 3 .i64 .i64 x x Try.underlying3]
    simp
  have hc : Try.prog.cellsOf 3 = 1 := by kernel_rfl
  rw [show (10000 : Nat) = 9999 + 1 from rfl, run_equalIn_array (P := Try.prog) w 9999 _ _ Try.underlying37 hi, hc]
  simp [List.range, List.range.loop, Op.eqItems, go_sem, e]
set_option maxHeartbeats 400000 in
theorem numc (x : Int) (w : World) : Calls Try.prog 19 #[.int .i64 x] w fun e w' => e = .returned (.int .i64 x) ∧ w = w' := by
  go_enter Try.func19, Try.ntmps19
  go_wp2
  go_ret
  exact ⟨rfl, rfl⟩

/-! ### Get and GetHead, what is returned written out: for every string -/
def gotH (s : ByteArray) : Head := if 12 ≤ s.size then getH s else head0
def gotC (s : ByteArray) (k : Nat) : Int := if 12 ≤ s.size then be2 s k else 0
def gotE (s : ByteArray) : Int := if 12 ≤ s.size then 0 else 600
theorem gotH_yes {s : ByteArray} (h : 12 ≤ s.size) : gotH s = getH s := if_pos h
theorem gotC_yes {s : ByteArray} (h : 12 ≤ s.size) (k : Nat) : gotC s k = be2 s k := if_pos h
theorem gotE_yes {s : ByteArray} (h : 12 ≤ s.size) : gotE s = 0 := if_pos h
theorem gotE_no {s : ByteArray} (h : ¬ 12 ≤ s.size) : gotE s = 600 := if_neg h
theorem got (s : ByteArray) (w : World) (hs : s.size ≤ 9223372036854775000) :
    Calls Try.prog 26 #[.string s] w fun e w' => e = .returned (.tuple #[.agg #[.int .i64 (gotH s).id, .bool (gotH s).qr, .int .i64 (gotH s).op, .bool (gotH s).aa, .bool (gotH s).tc, .bool (gotH s).rd, .bool (gotH s).ra, .int .i64 (gotH s).z, .int .i64 (gotH s).rc], .agg #[.int .i64 (gotC s 4), .int .i64 (gotC s 6), .int .i64 (gotC s 8), .int .i64 (gotC s 10)], .int .i64 (gotE s)]) ∧ Below w.heap.size w w' := by
  by_cases h : 12 ≤ s.size
  · have := get_yes s w hs h
    simp only [gotH, gotC, gotE, if_pos h]; exact this
  · have := get_no s w (by omega)
    simp only [gotH, gotC, gotE, if_neg h]; exact this
theorem rgot (s : ByteArray) (w : World) (hs : s.size ≤ 9223372036854775000) :
    Calls Try.prog 27 #[.string s] w fun e w' => e = .returned (.tuple #[.agg #[.int .i64 (gotH s).id, .bool (gotH s).qr, .int .i64 (gotH s).op, .bool (gotH s).aa, .bool (gotH s).tc, .bool (gotH s).rd, .bool (gotH s).ra, .int .i64 (gotH s).z, .int .i64 (gotH s).rc], .agg #[.int .i64 (gotC s 4), .int .i64 (gotC s 6), .int .i64 (gotC s 8), .int .i64 (gotC s 10)], .int .i64 (gotE s)]) ∧ Below w.heap.size w w' := by
  by_cases h : 12 ≤ s.size
  · have := rget_yes s w hs h
    simp only [gotH, gotC, gotE, if_pos h]; exact this
  · have := rget_no s w (by omega)
    simp only [gotH, gotC, gotE, if_neg h]; exact this
/-! ### Put and PutHead: for every header -/
def wroteS (h : Head) (a b c d : Int) : ByteArray := if mayB h a b c d then h.putS a b c d else ⟨#[]⟩
def wroteE (h : Head) (a b c d : Int) : Int := if mayB h a b c d then 0 else 600
theorem wrote (h : Head) (a b c d : Int) (w : World) :
    Calls Try.prog 24 #[.agg #[.int .i64 h.id, .bool h.qr, .int .i64 h.op, .bool h.aa, .bool h.tc, .bool h.rd, .bool h.ra, .int .i64 h.z, .int .i64 h.rc], .agg #[.int .i64 a, .int .i64 b, .int .i64 c, .int .i64 d]] w fun e w' => e = .returned (.tuple #[.string (wroteS h a b c d), .int .i64 (wroteE h a b c d)]) ∧ Below w.heap.size w w' := by
  cases hm : mayB h a b c d
  · have := put_no h a b c d w hm
    simp only [wroteS, wroteE, hm]; exact this
  · have := put_yes h a b c d w hm
    simp only [wroteS, wroteE, hm]; exact this
theorem rwrote (h : Head) (a b c d : Int) (w : World) :
    Calls Try.prog 25 #[.agg #[.int .i64 h.id, .bool h.qr, .int .i64 h.op, .bool h.aa, .bool h.tc, .bool h.rd, .bool h.ra, .int .i64 h.z, .int .i64 h.rc], .agg #[.int .i64 a, .int .i64 b, .int .i64 c, .int .i64 d]] w fun e w' => e = .returned (.tuple #[.string (wroteS h a b c d), .int .i64 (wroteE h a b c d)]) ∧ Below w.heap.size w w' := by
  cases hm : mayB h a b c d
  · have := rput_no h a b c d w hm
    simp only [wroteS, wroteE, hm]; exact this
  · have := rput_yes h a b c d w hm
    simp only [wroteS, wroteE, hm]; exact this
end Go.Proofs.Ytccnckppkkhoeaa.Hd
