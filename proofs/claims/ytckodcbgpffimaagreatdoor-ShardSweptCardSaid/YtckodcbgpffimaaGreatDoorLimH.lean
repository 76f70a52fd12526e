import Derived.Test.YtckodcbgpffimaaGreatDoorLimG
import Derived.Test.YtckodcbgpffimaaGreatDoorProg
import Derived.KernelRfl
namespace Lim
open Go
noncomputable section
set_option linter.defProp false
abbrev Δ:=@Kp.refl
abbrev ψ:Option lB:=.some .int
abbrev ω:Option lB:=.some .str
abbrev ξ:Option lB:=.some .ptr
abbrev Θ:K:=.bool false
abbrev ι:K:=.bool true
abbrev Ϙ(l:List K):tp:=.cells l 251 false
abbrev ϙ(l:List K):tp:=.cells l 276 false
abbrev Ϛ(l:List K):tp:=.cells l 255 false
abbrev ϛ(l:List K):tp:=.cells l 225 false
abbrev Ϝ(l:List K):tp:=.cells l 3 false
abbrev ϝ(l:List K):tp:=.cells l 293 false
abbrev Ϟ(l:List K):tp:=.cells l 107 false
abbrev ϟ(l:List K):tp:=.cells l 129 false
abbrev Ϡ(l:List K):tp:=.cells l 5 false
abbrev ϡ(l:List K):tp:=.cells l 327 false
abbrev ϰ(l:List K):tp:=.cells l 213 false
abbrev ϱ(l:List K):tp:=.cells l 49 false
abbrev ϵ(l:List K):tp:=.cells l 249 false
abbrev Ϸ(l:List K):tp:=.cells l 118 false
abbrev ϸ(l:List K):tp:=.cells l 126 false
abbrev ϻ(l:List K):tp:=.cells l 43 false
abbrev Ê(l:List K):tp:=.cells l 133 false
abbrev Ë(l:List K):tp:=.cells l 210 false
abbrev Ì(l:List K):tp:=.cells l 96 false
abbrev Í(l:List K):tp:=.cells l 9 false
abbrev Î(l:List K):tp:=.cells l 172 false
abbrev Ï(l:List K):tp:=.cells l 131 false
abbrev Ð(l:List K):tp:=.cells l 153 false
abbrev Ñ(l:List K):tp:=.cells l 272 false
abbrev Ò(l:List K):tp:=.cells l 137 false
abbrev Ó(l:List K):tp:=.cells l 156 false
abbrev Ô(l:List K):tp:=.cells l 34 false
abbrev Õ(l:List K):tp:=.cells l 241 false
abbrev Ö(l:List K):tp:=.cells l 201 false
abbrev Ø(l:List K):tp:=.cells l 102 false
abbrev Ù(l:List K):tp:=.cells l 243 false
abbrev Ú(l:List K):tp:=.cells l 274 false
abbrev Û(l:List K):tp:=.cells l 39 false
abbrev Ü(l:List K):tp:=.cells l 32 false
abbrev Ý(l:List K):tp:=.cells l 123 false
abbrev ζ(n:Nat):K:=I n
abbrev ϑ:K:=.str []
abbrev ϕ:K:=.int .u8 0
abbrev ϖ:K:=I 1
abbrev μ:K:=I 0
abbrev η:=@O.new
abbrev χ:=@O.set
abbrev ε:=@O.skip
abbrev Þ:List K:=[Θ,.ae,.ae]
abbrev ϐ0:List K:=[μ,Θ,.ae]
abbrev ϐ1:List K:=[ϑ,ϑ,μ,μ]
abbrev ϐ2:List K:=[ϑ,ϑ]
abbrev ϐ3:List K:=[μ,ϑ,ϑ,Θ]
abbrev ϐ4:List K:=[ϕ,Θ,ϑ]
abbrev ϐ5:List K:=[μ,ϑ]
abbrev ϐ6:List K:=[μ,μ,ϕ,μ,μ,μ]
abbrev ϐ7:List K:=[μ,μ,Θ,.ae,.ae]
abbrev ϐ8:List K:=[μ,μ,ϕ,Θ,ϑ]
abbrev ϐ9:List K:=[μ,μ,μ]
abbrev ϐa:List K:=[ϕ,ϑ,ϑ,ϑ,Θ]
abbrev ϐb:=Ϙ Þ
abbrev ϐc:=ϙ ϐ0
def P0:Program:=Go.Proofs.Tryz.prog
def hY (f:Nat):Nat->υ (δ Nat):=
 if f=3 then (λi=>if i=8 then Φ [1,6,7,8]else if i=23 then Φ [6,7,9,10,12,14]else ν)else
 if f=7 then (λi=>if i=3 then Φ [0,3,4]else if i=7 then Φ [0,3,4,5]else ν)else
 if f=10 then (λi=>if i=11 then Φ [0,8,9]else ν)else
 if f=11 then (λi=>if i=22 then Φ [0,1,2,7,8,13,15,16]else if i=30 then Φ [0,8,13,18]else ν)else
 if f=12 then (λi=>if i=15 then Φ [0,1,3,4,12]else if i=17 then Φ [0,1,4,12,13,77,78,79]else if i=22 then Φ [0,1,12,13,90,91,92]else ν)else
 if f=14 then (λi=>if i=4 then Φ [5,6,14,15,16]else ν)else
 if f=15 then (λi=>if i=4 then Φ [5,6,16,17,18]else ν)else
 if f=16 then (λi=>if i=5 then Φ [0,4,15,16,17]else if i=14 then Φ [0,4,9,52,53,54]else ν)else
 if f=17 then (λi=>if i=4 then Φ [0,1,5]else ν)else
 if f=18 then (λi=>if i=4 then Φ [0,1,5]else ν)else
 if f=19 then (λi=>if i=11 then Φ [0,10,12]else if i=16 then Φ [15,61,62,63]else ν)else
 if f=35 then (λi=>if i=9 then Φ [0,6]else if i=14 then Φ [6]else ν)else
 if f=36 then (λi=>if i=9 then Φ [0,38,39,40]else ν)else
 if f=37 then (λi=>if i=3 then Φ [0,6,7,28,29,30]else ν)else
 if f=42 then (λi=>if i=16 then Φ [3,5,10,11]else if i=17 then Φ [5,10,11]else ν)else
 if f=46 then (λi=>if i=2 then Φ [1,9,10,11]else if i=8 then Φ [32,33,34]else ν)else
 if f=48 then (λi=>if i=5 then Φ [1,4,6,18,19,20]else ν)else
 if f=54 then (λi=>if i=6 then Φ [0,5,31,32,33]else ν)else
 if f=73 then (λi=>if i=7 then Φ [0,4,26,27]else ν)else
 if f=82 then (λi=>if i=2 then Φ [0,1,7,8]else ν)else
 if f=86 then (λi=>if i=5 then Φ [0,1,5,6]else ν)else
 if f=88 then (λi=>if i=10 then Φ [4,7,10]else ν)else
 if f=97 then (λi=>if i=6 then Φ [0,3,4,5,34,35,36]else if i=18 then Φ [0,2,3,4,5,13,78,79,80]else ν)else
 if f=98 then (λi=>if i=5 then Φ [0,1]else if i=9 then Φ [0,1,5,6]else if i=12 then Φ [0,1,5,7]else ν)else
 if f=107 then (λi=>if i=10 then Φ [7]else ν)else
 if f=110 then (λi=>if i=8 then Φ [1,12,57,58]else ν)else
 if f=112 then (λi=>if i=3 then Φ [3,6,7,8]else ν)else
 if f=114 then (λi=>if i=2 then Φ [0,1,19,20,21]else ν)else
 if f=124 then (λi=>if i=3 then Φ [2,3,14,15,16]else ν)else
 if f=127 then (λi=>if i=2 then Φ [0,1,2,18,19,20]else if i=9 then Φ [0,2,9,29,30,31]else if i=18 then Φ [0,2,9,11,12,13,29,30,31]else ν)else
 if f=132 then (λi=>if i=16 then Φ [0,1,2,7]else if i=30 then Φ [0,7,15]else ν)else
 if f=133 then (λi=>if i=10 then Φ [0,3,55,56,57]else if i=21 then Φ [0,7]else if i=23 then Φ [0,7]else ν)else
 if f=135 then (λi=>if i=2 then Φ [1,5]else ν)else
 if f=136 then (λi=>if i=2 then Φ [0,1,7,8]else ν)else
 if f=144 then (λi=>if i=3 then Φ [0,1]else ν)else
 if f=146 then (λi=>if i=3 then Φ [0,1]else ν)else
 if f=149 then (λi=>if i=4 then Φ [4,6,7]else if i=9 then Φ [4,7,8]else ν)else
 if f=157 then (λi=>if i=4 then Φ [0,4,5,6]else ν)else
 if f=166 then (λi=>if i=3 then Φ [0,1,6,7]else ν)else
 if f=169 then (λi=>if i=1 then Φ [0,1,6,7]else ν)else
 if f=170 then (λi=>if i=1 then Φ [0,1,9,10,11]else ν)else
 if f=178 then (λi=>if i=21 then Φ [0,1,5,10,11,12]else if i=27 then Φ [0,1,10,15,16,17]else ν)else
 if f=180 then (λi=>if i=7 then Φ [1,2,6,9,10,11]else ν)else
 if f=186 then (λi=>if i=14 then Φ [0,1,6,42,43]else ν)else
 if f=191 then (λi=>if i=3 then Φ [4,7,8,9]else ν)else
 if f=195 then (λi=>if i=6 then Φ [0,2,4,5,18,19]else if i=10 then Φ [0,2,4,5]else if i=11 then Φ [0,2,4,5,6]else ν)else
 if f=196 then (λi=>if i=3 then Φ [0,2,4,7,16,17]else ν)else
 if f=201 then (λi=>if i=3 then Φ [1,2,4,5,16]else ν)else
 if f=219 then (λi=>if i=4 then Φ [1,2,4,5]else if i=9 then Φ [1,2,4,6,7,8]else ν)else
 if f=222 then (λi=>if i=1 then Φ [0,1,6,7]else ν)else
 if f=226 then (λi=>if i=1 then Φ [0,1]else ν)else
 if f=234 then (λi=>if i=3 then Φ [1,2,3,5]else if i=9 then Φ [1,2,3]else ν)else
 if f=236 then (λi=>if i=8 then Φ [4,5]else ν)else
 if f=237 then (λi=>if i=2 then Φ [1,7,8,9]else if i=10 then Φ [1,5]else ν)else
 if f=240 then (λi=>if i=3 then Φ [3,6,7,8]else ν)else
 if f=245 then (λi=>if i=2 then Φ [0,1,7,8]else ν)else
 if f=248 then (λi=>if i=3 then Φ [1,3,15,16,17]else ν)else
 if f=249 then (λi=>if i=3 then Φ [0,3,9,10,11]else if i=11 then Φ [6,25,26,27]else ν)else
 if f=250 then (λi=>if i=3 then Φ [0,3,9,10,11]else if i=11 then Φ [6,25,26,27]else ν)else
 if f=264 then (λi=>if i=2 then Φ [0,1,7,8]else ν)else
 if f=278 then (λi=>if i=2 then Φ [0,7,8,9]else ν)else
 if f=279 then (λi=>if i=3 then Φ [0,1]else ν)else
 if f=280 then (λi=>if i=3 then Φ [0,1]else ν)else
 if f=284 then (λi=>if i=2 then Φ [0,1,7,8]else ν)else
 λ_=>ν
