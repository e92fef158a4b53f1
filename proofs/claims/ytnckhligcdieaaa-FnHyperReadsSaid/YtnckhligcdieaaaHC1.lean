/- Plain words of SHA-256. -/
import Derived.Test.YtnckhligcdieaaaMW2
import Derived.Test.YtnckhligcdieaaaMW3
namespace Go.Proofs.Ytnckhligcdieaaa.P
open Go.RowKit Go.Proofs.YtnckhligcdieaaaW.PrintWords Go.Proofs.YtnckhligcdieaaaW.PrintLast Go.Proofs.YtnckhligcdieaaaW.PrintMore Go.Proofs.Ytnckhligcdieaaa.Kit
set_option linter.unusedVariables false
def impl_firstState.v : List Int := [1779033703, 3144134277, 1013904242, 2773480762, 1359893119, 2600822924, 528734635, 1541459225]
def rot (x : Int) (n : Nat) : Int := Go.bits .or .u32 (shl .u32 x ((32 - n : Nat) : Int)) (shr .u32 x (n : Int))
def zs64 : List Int := List.replicate 64 0
def wordsA (s : ByteArray) : Nat → List Int
 | 0 => zs64
 | m + 1 => (wordsA s m).set (m / 4) (Go.bits .or .u32 ((rd (wordsA s m) ((m / 4 : Nat) : Int) * 256) % 4294967296) (bt s (m : Int) % 4294967296))
theorem wordsA_len (s : ByteArray) (m : Nat) : (wordsA s m).length = 64 := by
 induction m with
 | zero => rfl
 | succ m ih => simp only [wordsA, List.length_set, ih]
def wordNext (l : List Int) (t : Nat) : Int :=
 (Go.bits .xor .u32 (Go.bits .xor .u32 (rot (rd l ((t - 2 : Nat) : Int)) 17) (rot (rd l ((t - 2 : Nat) : Int)) 19)) (rd l ((t - 2 : Nat) : Int) / 1024) + rd l ((t - 7 : Nat) : Int) + Go.bits .xor .u32 (Go.bits .xor .u32 (rot (rd l ((t - 15 : Nat) : Int)) 7) (rot (rd l ((t - 15 : Nat) : Int)) 18)) (rd l ((t - 15 : Nat) : Int) / 8) + rd l ((t - 16 : Nat) : Int)) % 4294967296
def wordsB (s : ByteArray) : Nat → List Int
 | 0 => wordsA s 64
 | j + 1 => (wordsB s j).set (16 + j) (wordNext (wordsB s j) (16 + j))
theorem wordsB_len (s : ByteArray) (m : Nat) : (wordsB s m).length = 64 := by
 induction m with
 | zero => exact wordsA_len s 64
 | succ m ih => simp only [wordsB, List.length_set, ih]
def impl_wordsOf.v (s : ByteArray) : List Int := wordsB s 48
def roundKeys : List Int := [1116352408, 1899447441, 3049323471, 3921009573, 961987163, 1508970993, 2453635748, 2870763221, 3624381080, 310598401, 607225278, 1426881987, 1925078388, 2162078206, 2614888103, 3248222580, 3835390401, 4022224774, 264347078, 604807628, 770255983, 1249150122, 1555081692, 1996064986, 2554220882, 2821834349, 2952996808, 3210313671, 3336571891, 3584528711, 113926993, 338241895, 666307205, 773529912, 1294757372, 1396182291, 1695183700, 1986661051, 2177026350, 2456956037, 2730485921, 2820302411, 3259730800, 3345764771, 3516065817, 3600352804, 4094571909, 275423344, 430227734, 506948616, 659060556, 883997877, 958139571, 1322822218, 1537002063, 1747873779, 1955562222, 2024104815, 2227730452, 2361852424, 2428436474, 2756734187, 3204031479, 3329325298]
theorem roundKeys_len : roundKeys.length = 64 := rfl
def rnd (k w : Int) : List Int → List Int
 | [a, b, c, d, e, f, g, h] =>
  let t1 := (h + Go.bits .xor .u32 (Go.bits .xor .u32 (rot e 6) (rot e 11)) (rot e 25) + Go.bits .xor .u32 (Go.bits .and .u32 e f) (Go.bits .and .u32 (Go.bits .xor .u32 (if IntKind.u32.signed = true then -1 else IntKind.u32.max) e) g) + k + w) % 4294967296
  let t2 := (Go.bits .xor .u32 (Go.bits .xor .u32 (rot a 2) (rot a 13)) (rot a 22) + Go.bits .xor .u32 (Go.bits .xor .u32 (Go.bits .and .u32 a b) (Go.bits .and .u32 a c)) (Go.bits .and .u32 b c)) % 4294967296
  [(t1 + t2) % 4294967296, a, b, c, (d + t1) % 4294967296, e, f, g]
 | l => l
def rounds (ws st : List Int) : Nat → List Int
 | 0 => st
 | t + 1 => rnd (rd roundKeys (t : Int)) (rd ws (t : Int)) (rounds ws st t)
def sums (st v : List Int) : Nat → List Int
 | 0 => v
 | i + 1 => (sums st v i).set i ((rd (sums st v i) (i : Int) + rd st (i : Int)) % 4294967296)
theorem sums_len (st v : List Int) (i : Nat) : (sums st v i).length = v.length := by
 induction i with
 | zero => rfl
 | succ i ih => simp only [sums, List.length_set, ih]
def zs8 : List Int := List.replicate 8 0
def impl_oneBlock.v (st : List Int) (s : ByteArray) : List Int := sums st (rounds (impl_wordsOf.v s) st 64) 8
theorem impl_oneBlock.v_len (st : List Int) (s : ByteArray) (h : st.length = 8) : (impl_oneBlock.v st s).length = 8 := by
 unfold impl_oneBlock.v
 rw [sums_len]
 have : ∀ t, (rounds (impl_wordsOf.v s) st t).length = 8 := by
  intro t
  induction t with
  | zero => exact h
  | succ t ih =>
   simp only [rounds]
   match rounds (impl_wordsOf.v s) st t, ih with
   | [_, _, _, _, _, _, _, _], _ => rfl
 exact this 64
def stAt (st : List Int) (s : ByteArray) : Nat → List Int
 | 0 => st
 | n + 1 => impl_oneBlock.v (stAt st s n) (s.extract (64 * n) (64 * n + 64))
theorem stAt_len (st : List Int) (s : ByteArray) (h : st.length = 8) (n : Nat) : (stAt st s n).length = 8 := by
 induction n with
 | zero => exact h
 | succ n ih => exact impl_oneBlock.v_len _ _ ih
theorem ext_ext (s : ByteArray) (a b : Nat) (h : a + b ≤ s.size) : (s.extract a s.size).extract 0 b = s.extract a (a + b) := by
 rw [ByteArray.extract_extract]
 congr 1; omega
theorem ext_tail (s : ByteArray) (a b : Nat) (h : a + b ≤ s.size) : (s.extract a s.size).extract b (s.extract a s.size).size = s.extract (a + b) s.size := by
 rw [ByteArray.extract_extract, ByteArray.size_extract]
 congr 1; omega
end Go.Proofs.Ytnckhligcdieaaa.P
