/- The plain answer of layer 3 (digest): words as numbers, blocks of 64 bytes, the digest of bytes. Conditions: none. -/
import Derived.Test.YtcgknadodpdblaaBase
import Derived.Laws.BitsLemmas
set_option linter.unusedVariables false
set_option linter.unusedSimpArgs false
namespace Go.Proofs.Ytcgknadodpdblaa

/-- a list's number at a place, 0 behind its end -/
def gI (l : List Int) (i : Nat) : Int := l.getD i 0
/-- a word: a number below 2^32 -/
def U32 (x : Int) : Prop := 0 ≤ x ∧ x < 4294967296
def w32 (x : Int) : Int := x % 4294967296
def orM (x y : Int) : Int := bits .or .u32 x y
def xorM (x y : Int) : Int := bits .xor .u32 x y
def andM (x y : Int) : Int := bits .and .u32 x y
def notM (x : Int) : Int := bits .xor .u32 4294967295 x
def addM (x y : Int) : Int := w32 (x + y)
def rotM (x : Int) (n : Nat) : Int := orM (w32 (x * 2 ^ (32 - n))) (x / 2 ^ n)
def byteM (b : List UInt8) (i : Nat) : Int := ((b.getD i 0).toNat : Int)
def wordM (b : List UInt8) (i : Nat) : Int := orM (orM (orM (w32 (byteM b (4 * i) * 2 ^ 24)) (w32 (byteM b (4 * i + 1) * 2 ^ 16))) (w32 (byteM b (4 * i + 2) * 2 ^ 8))) (byteM b (4 * i + 3))
def sigA (x : Int) : Int := xorM (xorM (rotM x 7) (rotM x 18)) (x / 2 ^ 3)
def sigB (x : Int) : Int := xorM (xorM (rotM x 17) (rotM x 19)) (x / 2 ^ 10)
def nextW (l : List Int) : Int := addM (addM (addM (gI l (l.length - 16)) (sigA (gI l (l.length - 15)))) (gI l (l.length - 7))) (sigB (gI l (l.length - 2)))
def wordsFirst (b : List UInt8) (k : Nat) : List Int := (List.range k).map (wordM b)
def wordsM (b : List UInt8) : Nat → List Int
  | 0 => wordsFirst b 16
  | n + 1 => wordsM b n ++ [nextW (wordsM b n)]
def kM : List Int := [0x428a2f98, 0x71374491, 0xb5c0fbcf, 0xe9b5dba5, 0x3956c25b, 0x59f111f1, 0x923f82a4, 0xab1c5ed5, 0xd807aa98, 0x12835b01, 0x243185be, 0x550c7dc3, 0x72be5d74, 0x80deb1fe, 0x9bdc06a7, 0xc19bf174, 0xe49b69c1, 0xefbe4786, 0x0fc19dc6, 0x240ca1cc, 0x2de92c6f, 0x4a7484aa, 0x5cb0a9dc, 0x76f988da, 0x983e5152, 0xa831c66d, 0xb00327c8, 0xbf597fc7, 0xc6e00bf3, 0xd5a79147, 0x06ca6351, 0x14292967, 0x27b70a85, 0x2e1b2138, 0x4d2c6dfc, 0x53380d13, 0x650a7354, 0x766a0abb, 0x81c2c92e, 0x92722c85, 0xa2bfe8a1, 0xa81a664b, 0xc24b8b70, 0xc76c51a3, 0xd192e819, 0xd6990624, 0xf40e3585, 0x106aa070, 0x19a4c116, 0x1e376c08, 0x2748774c, 0x34b0bcb5, 0x391c0cb3, 0x4ed8aa4a, 0x5b9cca4f, 0x682e6ff3, 0x748f82ee, 0x78a5636f, 0x84c87814, 0x8cc70208, 0x90befffa, 0xa4506ceb, 0xbef9a3f7, 0xc67178f2]
def firstM : List Int := [0x6a09e667, 0xbb67ae85, 0x3c6ef372, 0xa54ff53a, 0x510e527f, 0x9b05688c, 0x1f83d9ab, 0x5be0cd19]
def tM (r : List Int) (k w : Int) : Int :=
  addM (addM (addM (addM (gI r 7) (xorM (xorM (rotM (gI r 4) 6) (rotM (gI r 4) 11)) (rotM (gI r 4) 25))) (xorM (andM (gI r 4) (gI r 5)) (andM (notM (gI r 4)) (gI r 6)))) k) w
def uM (r : List Int) : Int :=
  addM (xorM (xorM (rotM (gI r 0) 2) (rotM (gI r 0) 13)) (rotM (gI r 0) 22)) (xorM (xorM (andM (gI r 0) (gI r 1)) (andM (gI r 0) (gI r 2))) (andM (gI r 1) (gI r 2)))
def turnM (r : List Int) (t u : Int) : List Int := [addM t u, gI r 0, gI r 1, gI r 2, addM (gI r 3) t, gI r 4, gI r 5, gI r 6]
def roundM (W : List Int) (r : List Int) (i : Nat) : List Int := turnM r (tM r (gI kM i) (gI W i)) (uM r)
def roundsM (W s : List Int) : Nat → List Int
  | 0 => s
  | n + 1 => roundM W (roundsM W s n) n
def sumTo (r s : List Int) (k : Nat) : List Int := (List.range 8).map fun i => if i < k then addM (gI r i) (gI s i) else gI r i
/-- a state behind 64 bytes more -/
def stepM (s : List Int) (b : List UInt8) : List Int := sumTo (roundsM (wordsM b 48) s 64) s 8
def stateN (s : List Int) (l : List UInt8) : Nat → List Int
  | 0 => s
  | n + 1 => stepM (stateN s l n) ((l.drop (64 * n)).take 64)
def stateM (l : List UInt8) : List Int := stateN firstM l (l.length / 64)
def lenBytes (bits : Nat) : List UInt8 := [56, 48, 40, 32, 24, 16, 8, 0].map fun i => UInt8.ofNat (bits / 2 ^ i)
def padM (n : Nat) : List UInt8 := 128 :: List.replicate ((119 - n % 64) % 64) 0 ++ lenBytes (8 * n)
def outM (s : List Int) : List UInt8 := (List.range 32).map fun i => UInt8.ofNat ((gI s (i / 4)).toNat / 2 ^ (24 - 8 * (i % 4)))
def sumM (b : List UInt8) : List UInt8 := outM (stateM (b ++ padM b.length))

theorem sum_empty : (sumM []).take 4 = [0xe3, 0xb0, 0xc4, 0x42] := by decide +kernel
end Go.Proofs.Ytcgknadodpdblaa
