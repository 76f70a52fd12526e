import Derived.Test.YtomffjeofpafnaaGreatDoorLimG
import Derived.Test.YtomffjeofpafnaaGreatDoorProg
import Derived.KernelRfl
namespace Lim
open Go
noncomputable section
set_option linter.defProp false
def P0:Program:=Go.Proofs.Tryz.prog
def lvs (f:Nat):Nat->Option (List Nat):=
 if f=7 then (λi=>if i=10 then some [1,9,11,13,14]else if i=18 then some [1,9,10,11,13,14,15,16,17]else if i=25 then some [1,9,10,11,13,14,16]else none)else
 if f=11 then (λi=>if i=16 then some [0,1,2,7]else if i=30 then some [0,7,15]else none)else
 if f=26 then (λi=>if i=3 then some [0,3,4]else if i=7 then some [0,3,4,5]else none)else
 if f=31 then (λi=>if i=9 then some [0,38,39,40]else none)else
 if f=32 then (λi=>if i=3 then some [0,3,4]else none)else
 if f=34 then (λi=>if i=11 then some [0,10,12]else if i=16 then some [15,61,62,63]else none)else
 if f=36 then (λi=>if i=4 then some [0,3,4,5,6]else none)else
 if f=38 then (λi=>if i=3 then some [0,1,5,6]else if i=9 then some [0,1,5,6,7,9]else none)else
 if f=42 then (λi=>if i=7 then some [0,4,26,27]else none)else
 if f=45 then (λi=>if i=3 then some [0,1,6,7]else none)else
 if f=47 then (λi=>if i=7 then some [1,2,6,9,10,11]else none)else
 if f=52 then (λi=>if i=21 then some [0,1,5,10,11,12]else if i=27 then some [0,1,10,15,16,17]else none)else
 if f=55 then (λi=>if i=6 then some [0,3,4,5,34,35,36]else if i=18 then some [0,2,3,4,5,13,78,79,80]else none)else
 if f=67 then (λi=>if i=10 then some [7]else none)else
 if f=69 then (λi=>if i=8 then some [1,12,57,58]else none)else
 if f=71 then (λi=>if i=3 then some [3,6,7,8]else none)else
 if f=72 then (λi=>if i=2 then some [0,11,12,13]else if i=5 then some [0,7,11,12,13]else none)else
 if f=73 then (λi=>if i=2 then some [0,1,19,20,21]else none)else
 if f=75 then (λi=>if i=10 then some [0,5]else none)else
 if f=83 then (λi=>if i=10 then some [0,3,55,56,57]else if i=21 then some [0,7]else if i=23 then some [0,7]else none)else
 if f=87 then (λi=>if i=3 then some [2,3,14,15,16]else none)else
 if f=90 then (λi=>if i=4 then some [4,6,7]else if i=9 then some [4,7,8]else none)else
 if f=93 then (λi=>if i=3 then some [0,2,4,7,16,17]else none)else
 if f=98 then (λi=>if i=1 then some [0,1,6,7]else none)else
 if f=109 then (λi=>if i=4 then some [1,2,4,5]else if i=9 then some [1,2,4,6,7,8]else none)else
 if f=111 then (λi=>if i=1 then some [0,1,9,10,11]else none)else
 if f=115 then (λi=>if i=4 then some [0,4,5,6]else none)else
 if f=125 then (λi=>if i=2 then some [0,1,2,18,19,20]else if i=9 then some [0,2,9,29,30,31]else if i=18 then some [0,2,9,11,12,13,29,30,31]else none)else
 if f=131 then (λi=>if i=14 then some [0,1,6,42,43]else none)else
 if f=135 then (λi=>if i=1 then some [0,1,6,7]else none)else
 if f=138 then (λi=>if i=6 then some [0,2,4,5,18,19]else if i=10 then some [0,2,4,5]else if i=11 then some [0,2,4,5,6]else none)else
 if f=139 then (λi=>if i=2 then some [0,1,7,8]else none)else
 if f=141 then (λi=>if i=3 then some [3,6,7,8]else none)else
 if f=145 then (λi=>if i=2 then some [1,7,8,9]else if i=10 then some [1,5]else none)else
 if f=146 then (λi=>if i=3 then some [1,3,15,16,17]else none)else
 if f=147 then (λi=>if i=3 then some [0,3,9,10,11]else if i=11 then some [6,25,26,27]else none)else
 if f=148 then (λi=>if i=3 then some [0,3,9,10,11]else if i=11 then some [6,25,26,27]else none)else
 if f=152 then (λi=>if i=3 then some [1,2,4,5,16]else none)else
 if f=158 then (λi=>if i=3 then some [0,1]else none)else
 if f=159 then (λi=>if i=3 then some [0,1]else none)else
 if f=166 then (λi=>if i=2 then some [1,5]else none)else
 if f=167 then (λi=>if i=1 then some [0,1]else none)else
 if f=175 then (λi=>if i=3 then some [1,2,3,5]else if i=9 then some [1,2,3]else none)else
 if f=177 then (λi=>if i=8 then some [4,5]else none)else
 if f=187 then (λi=>if i=2 then some [0,7,8,9]else none)else
 if f=189 then (λi=>if i=3 then some [0,1]else none)else
 if f=190 then (λi=>if i=3 then some [0,1]else none)else
 if f=193 then (λi=>if i=3 then some [4,7,8,9]else none)else
 if f=200 then (λi=>if i=2 then some [0,1,7,8]else none)else
 if f=202 then (λi=>if i=2 then some [0,1,7,8]else none)else
 λ_=>none
