/- Closed facts. -/
import Derived.Test.YtbpnallaifdcpaaGreatDoorRows
import Derived.ProofKit
namespace Go.Proofs.YtbpnallaifdcpaaGreatDoor
open Go
noncomputable def cb (P:Program):Nat->List FuncId->List FuncId->Nat->List FuncId
 |0,_,s,_=>s.reverse
 |_+1,[],s,_=>s.reverse
 |n+1,f :: t,s,m=>bif m.testBit f then cb P n t s m else cb P n ((P.funcs[f]?).elim [] P.leadsTo++t) (f :: s) (m|||2 ^ f)
theorem cb_eq (P:Program):∀(n:Nat) (t s:List FuncId) (m:Nat),(∀f,s.contains f=m.testBit f)->P.closureVia n t s=cb P n t s m
 |0,_,_,_,_=>rfl
 |_+1,[],_,_,_=>rfl
 |n+1,f :: t,s,m,h=>by
  unfold Program.closureVia cb
  rw[h f]
  cases hm:m.testBit f with
  |true=>exact cb_eq P n t s m h
  |false=>
   refine cb_eq P n _ _ _ λg=>?_
   rw[Nat.testBit_or,Nat.testBit_two_pow,List.contains_cons,h g,Bool.or_comm]
   congr 1
   by_cases hg:g=f
   ·rw[hg];simp
   ·have:¬f=g:=λe=>hg e.symm
    simp[hg,this]
def l0:List Nat:=[3,7,20,71,58,72,145,73,146,147,59,85,255,21,74,75,22,76,23,77,78,79,80,149,148,256,82,81,150,24,83,84,86,25,26,87,27,29,28,88,30,89,151,152,153,154,257,354,158,155,156,157,159,160,161,164,165,258,162,163,166,259,90,91,168,167,260,92,93,170,169,261,94,95,171,263,262,355,172,173,265,266,264,356,174,267,175,268,323,410,488,269,357,432,411,433,498,499,434,500]
def l1:List Nat:=[501,502,567,503,358,435,359,436,437,438,504,568,602,505,569,571,204,281,570,506,507,508,572,509,510,511,573,512,31,96,176,97,99,98,177,100,178,32,101,8,33,102,103,65,179,104,180,181,34,105,106,107,35,108,36,109,110,111,182,183,112,37,113,184,114,38,43,115,185,186,39,116,40,117,187,188,191,270,272,271,189,193,190,192,194,273,118,119,120,121,195,196,197,274,360,361,275,362,439,440]
def l2:List Nat:=[513,514,574,515,363,364,441,442,516,517,443,444,445,41,122,123,124,125,198,42,126,9,11,47,48,49,132,50,133,51,134,12,10,45,129,218,219,220,130,15,53,136,137,241,337,417,490,418,419,420,491,52,135,55,56,54,57,138,242,338,139,244,243,245,247,339,246,249,342,423,340,421,341,422,492,493,248,67,141,252,348,349,428,427,429,350,351,430,431,496,497,140,250,343,424,494,495,251,344,425]
def l3:List Nat:=[345,346,426,347,60,221,222,305,223,307,306,308,224,309,310,225,201,276,277,278,365,366,447,448,520,521,576,522,577,449,446,518,575,519,311,279,367,450,368,369,452,468,469,451,398,280,370,400,477,559,560,399,476,558,475,401,402,226,206,282,289,385,371,372,294,391,293,388,389,390,466,537,584,465,525,538,539,467,540,541,585,542,543,586,544,453,523,524,454,290,386,207,283,312,284,373,455,403,68,142]
def l4:List Nat:=[253,352,254,353,143,144,313,404,478,405,301,394,470,471,545,472,546,587,547,588,548,589,549,479,303,395,473,396,462,536,474,550,551,590,552,580,581,553,591,592,605,554,555,556,557,397,378,458,227,228,315,407,314,406,46,131,238,239,240,324,325,327,326,328,412,329,330,413,489,414,331,415,416,332,333,334,335,336,229,316,128,199,200,202,203,205,208,209,285,374,375,456,377,376,457,526,527,578,603,379]
def l5:List Nat:=[459,460,380,461,528,529,579,530,531,582,583,604,532,533,534,535,381,382,210,211,215,300,286,288,287,383,463,464,384,212,291,292,387,213,295,296,392,297,298,393,299,214,216,217,302,304,230,231,317,232,233,318,234,319,235,320,321,236,237,322,408,480,481,409,482,483,561,593,595,606,610,615,607,608,597,611,617,616,618,622,623,624,619,620,598,612,599,621,625,609,613,614,594,562,596,484,485,563,564,600]
def l6:List Nat:=[601,565,486,487,566,44,127,14,13]
theorem cl:Tryz.pinned.checked.prog.closure 3=l0++(l1++(l2++(l3++(l4++(l5++(l6)))))):=by
 unfold Program.closure
 rw[show 1+(Tryz.pinned.checked.prog.funcs.toList.map λg=>(Tryz.pinned.checked.prog.leadsTo g).length+1).sum=2003 by kernel_rfl,cb_eq _ _ _ _ 0 (λf=>by simp)]
 kernel_rfl
theorem fmx {α:Type} {p:FuncId->Option α} {a0 a1 a2 a3 a4 a5 a6:List α} (h0:l0.filterMap p=a0) (h1:l1.filterMap p=a1) (h2:l2.filterMap p=a2) (h3:l3.filterMap p=a3) (h4:l4.filterMap p=a4) (h5:l5.filterMap p=a5) (h6:l6.filterMap p=a6):(Tryz.pinned.checked.prog.closure 3).filterMap p=a0++(a1++(a2++(a3++(a4++(a5++a6))))):=by
 rw[cl]
 simp only[List.filterMap_append]
 rw[h0,h1,h2,h3,h4,h5,h6]
theorem flx {α:Type} {p:FuncId->List α} {a0 a1 a2 a3 a4 a5 a6:List α} (h0:l0.flatMap p=a0) (h1:l1.flatMap p=a1) (h2:l2.flatMap p=a2) (h3:l3.flatMap p=a3) (h4:l4.flatMap p=a4) (h5:l5.flatMap p=a5) (h6:l6.flatMap p=a6):(Tryz.pinned.checked.prog.closure 3).flatMap p=a0++(a1++(a2++(a3++(a4++(a5++a6))))):=by
 rw[cl]
 simp only[List.flatMap_append]
 rw[h0,h1,h2,h3,h4,h5,h6]
theorem f_b:(Rows.officerChecksRow.unfollowed==Tryz.pinned.checked.prog.unfollowed 3)=true:=by
 unfold Program.unfollowed
 rw[cl]
 kernel_rfl
theorem f_c:(Rows.officerChecksRow.recurses==Tryz.pinned.checked.prog.recurses 3)=true:=by
 unfold Program.recurses Program.unfollowed
 rw[cl]
 kernel_rfl
end Go.Proofs.YtbpnallaifdcpaaGreatDoor
