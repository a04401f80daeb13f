import Derived.Test.YtlcdgbhigfgehabGreatDoorQ00
import Derived.Control
set_option linter.all false
set_option maxRecDepth 100000
set_option maxHeartbeats 16000000
namespace Go.bp
open Go
def chain:List Code->Code->Code
 |[],z=>z
 |c::l,z=>.seq c (chain l z)
def di(P:bF):List Code->(Act->ab->Prop)->Act->ab->Prop
 |[],Q,a,w=>Q a w
 |c::l,Q,a,w=>c.wp P (λe a w=>e=.normal/\di P l Q a w) a w
def uF(l:List Code):eQ:=[.code (chain l (.refuse ""))]
def di.steps{P:bF}:∀{l:List Code}{Q:Act->ab->Prop}{a:Act}{w:ab},di P l Q a w->∀(b:bY)(cs:bW),∃a' w',Q a' w'/\Steps P (lone (b.at a (uF l)) cs w) (lone (b.at a' (uF [])) cs w')
 |[],Q,a,w,h,b,cs=>⟨a,w,h,Steps.refl _ _⟩
 |c::l,Q,a,w,h,b,cs=>by
  obtain⟨e,k,w1,⟨rfl,g⟩,i⟩:=h b (uF l) cs;obtain⟨j,w2,d,f⟩:=di.steps g b cs;exact⟨j,w2,d,.head step_seq (Steps.trans i f)⟩
def aW:Code->Code
 |.seq _ b=>b
 |c=>c
def dD:Code->Code
 |.seq a _=>a
 |c=>c
def yS:Code->dn
 |.region _ ops _=>ops
 |_=> #[]
end Go.bp
namespace Go.Proofs.YtlcdgbhigfgehabGreatDoor
open Go

def ajs(f:Nat->ai):(List.range 199).map f=[f 0,f 1,f 2,f 3,f 4,f 5,f 6,f 7,f 8,f 9,f 10,f 11,f 12,f 13,f 14,f 15,f 16,f 17,f 18,f 19,f 20,f 21,f 22,f 23,f 24,f 25,f 26,f 27,f 28,f 29,f 30,f 31,f 32,f 33,f 34,f 35,f 36,f 37,f 38,f 39,f 40,f 41,f 42,f 43,f 44,f 45,f 46,f 47,f 48,f 49,f 50,f 51,f 52,f 53,f 54,f 55,f 56,f 57,f 58,f 59,f 60,f 61,f 62,f 63,f 64,f 65,f 66,f 67,f 68,f 69,f 70,f 71,f 72,f 73,f 74,f 75,f 76,f 77,f 78,f 79,f 80,f 81,f 82,f 83,f 84,f 85,f 86,f 87,f 88,f 89,f 90,f 91,f 92,f 93,f 94,f 95,f 96,f 97,f 98,f 99,f 100,f 101,f 102,f 103,f 104,f 105,f 106,f 107,f 108,f 109,f 110,f 111,f 112,f 113,f 114,f 115,f 116,f 117,f 118,f 119,f 120,f 121,f 122,f 123,f 124,f 125,f 126,f 127,f 128,f 129,f 130,f 131,f 132,f 133,f 134,f 135,f 136,f 137,f 138,f 139,f 140,f 141,f 142,f 143,f 144,f 145,f 146,f 147,f 148,f 149,f 150,f 151,f 152,f 153,f 154,f 155,f 156,f 157,f 158,f 159,f 160,f 161,f 162,f 163,f 164,f 165,f 166,f 167,f 168,f 169,f 170,f 171,f 172,f 173,f 174,f 175,f 176,f 177,f 178,f 179,f 180,f 181,f 182,f 183,f 184,f 185,f 186,f 187,f 188,f 189,f 190,f 191,f 192,f 193,f 194,f 195,f 196,f 197,f 198]:=rfl
def Wa(T:aQ)(h:T.size=199):T= #[T.getD 0 I,T.getD 1 I,T.getD 2 I,T.getD 3 I,T.getD 4 I,T.getD 5 I,T.getD 6 I,T.getD 7 I,T.getD 8 I,T.getD 9 I,T.getD 10 I,T.getD 11 I,T.getD 12 I,T.getD 13 I,T.getD 14 I,T.getD 15 I,T.getD 16 I,T.getD 17 I,T.getD 18 I,T.getD 19 I,T.getD 20 I,T.getD 21 I,T.getD 22 I,T.getD 23 I,T.getD 24 I,T.getD 25 I,T.getD 26 I,T.getD 27 I,T.getD 28 I,T.getD 29 I,T.getD 30 I,T.getD 31 I,T.getD 32 I,T.getD 33 I,T.getD 34 I,T.getD 35 I,T.getD 36 I,T.getD 37 I,T.getD 38 I,T.getD 39 I,T.getD 40 I,T.getD 41 I,T.getD 42 I,T.getD 43 I,T.getD 44 I,T.getD 45 I,T.getD 46 I,T.getD 47 I,T.getD 48 I,T.getD 49 I,T.getD 50 I,T.getD 51 I,T.getD 52 I,T.getD 53 I,T.getD 54 I,T.getD 55 I,T.getD 56 I,T.getD 57 I,T.getD 58 I,T.getD 59 I,T.getD 60 I,T.getD 61 I,T.getD 62 I,T.getD 63 I,T.getD 64 I,T.getD 65 I,T.getD 66 I,T.getD 67 I,T.getD 68 I,T.getD 69 I,T.getD 70 I,T.getD 71 I,T.getD 72 I,T.getD 73 I,T.getD 74 I,T.getD 75 I,T.getD 76 I,T.getD 77 I,T.getD 78 I,T.getD 79 I,T.getD 80 I,T.getD 81 I,T.getD 82 I,T.getD 83 I,T.getD 84 I,T.getD 85 I,T.getD 86 I,T.getD 87 I,T.getD 88 I,T.getD 89 I,T.getD 90 I,T.getD 91 I,T.getD 92 I,T.getD 93 I,T.getD 94 I,T.getD 95 I,T.getD 96 I,T.getD 97 I,T.getD 98 I,T.getD 99 I,T.getD 100 I,T.getD 101 I,T.getD 102 I,T.getD 103 I,T.getD 104 I,T.getD 105 I,T.getD 106 I,T.getD 107 I,T.getD 108 I,T.getD 109 I,T.getD 110 I,T.getD 111 I,T.getD 112 I,T.getD 113 I,T.getD 114 I,T.getD 115 I,T.getD 116 I,T.getD 117 I,T.getD 118 I,T.getD 119 I,T.getD 120 I,T.getD 121 I,T.getD 122 I,T.getD 123 I,T.getD 124 I,T.getD 125 I,T.getD 126 I,T.getD 127 I,T.getD 128 I,T.getD 129 I,T.getD 130 I,T.getD 131 I,T.getD 132 I,T.getD 133 I,T.getD 134 I,T.getD 135 I,T.getD 136 I,T.getD 137 I,T.getD 138 I,T.getD 139 I,T.getD 140 I,T.getD 141 I,T.getD 142 I,T.getD 143 I,T.getD 144 I,T.getD 145 I,T.getD 146 I,T.getD 147 I,T.getD 148 I,T.getD 149 I,T.getD 150 I,T.getD 151 I,T.getD 152 I,T.getD 153 I,T.getD 154 I,T.getD 155 I,T.getD 156 I,T.getD 157 I,T.getD 158 I,T.getD 159 I,T.getD 160 I,T.getD 161 I,T.getD 162 I,T.getD 163 I,T.getD 164 I,T.getD 165 I,T.getD 166 I,T.getD 167 I,T.getD 168 I,T.getD 169 I,T.getD 170 I,T.getD 171 I,T.getD 172 I,T.getD 173 I,T.getD 174 I,T.getD 175 I,T.getD 176 I,T.getD 177 I,T.getD 178 I,T.getD 179 I,T.getD 180 I,T.getD 181 I,T.getD 182 I,T.getD 183 I,T.getD 184 I,T.getD 185 I,T.getD 186 I,T.getD 187 I,T.getD 188 I,T.getD 189 I,T.getD 190 I,T.getD 191 I,T.getD 192 I,T.getD 193 I,T.getD 194 I,T.getD 195 I,T.getD 196 I,T.getD 197 I,T.getD 198 I]:=by
 have e:T=((List.range 199).map λi=>T.getD i I).toArray:=by
  refine zh (by simp[h]) λi a b=> ?_;simp at b;simp[nM,a]
 rw[ajs]at e;exact e
def sO{T:aQ}{i:Nat}{v:ai}(h:T[i]? =some v):T.getD i I=v:=by rw[nM,h];rfl
end Go.Proofs.YtlcdgbhigfgehabGreatDoor
