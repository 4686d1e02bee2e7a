/- Lemmas of the proof: StmtI, StmtS. -/
import Derived.Test.YtihbaieiempjeaaGreatD0
import Derived.Test.YtihbaieiempjeaaGreatD1
namespace Go.Proofs.YtihbaieiempjeaaGreat
open Go.RowKit
theorem stmtB_1 (d a b c n:Int):stmtB ⟨1,d,a,b,c,n⟩=(regB d && (a == 0 && (b == 0 && (c == 0 && inB n 0 15)))):=rfl
theorem stmtB_2 (d a b c n:Int):stmtB ⟨2,d,a,b,c,n⟩=(regB d && (inB a 0 4 && (b == 0 && (c == 0 && inB n 0 3)))):=rfl
theorem stmtB_3 {o:Int} (d a b c n:Int) (h:inB o 3 9=true):stmtB ⟨o,d,a,b,c,n⟩=(regB d && (regB a && (regB b && (c == 0 && n == 0)))):=by
 have h1:=inB_iff.1 h
 unfold stmtB
 dsimp only
 rw [if_neg (by omega),if_neg (by omega),if_pos h]
theorem stmtB_10 (d a b c n:Int):stmtB ⟨10,d,a,b,c,n⟩=(regB d && (regB a && (regB b && (regB c && n == 0)))):=rfl
theorem stmtB_11 (d a b c n:Int):stmtB ⟨11,d,a,b,c,n⟩=(d == 0 && (regB a && (b == 0 && (c == 0 && n == 0)))):=rfl
theorem stmtB_12 (d a b c n:Int):stmtB ⟨12,d,a,b,c,n⟩=(d == 0 && (a == 0 && (b == 0 && (c == 0 && inB n 1 8)))):=rfl
theorem stmtB_13 {o:Int} (d a b c n:Int) (h1:o≠1) (h2:o≠2) (h3:inB o 3 9=false) (h10:o≠10) (h11:o≠11) (h12:o≠12) :
  stmtB ⟨o,d,a,b,c,n⟩=(o == 13 && (d == 0 && (a == 0 && (b == 0 && (c == 0 && n == 0))))):=by
 unfold stmtB
 dsimp only
 rw [if_neg h1,if_neg h2,if_neg (by rw [h3]; simp),if_neg h10,if_neg h11,if_neg h12]
theorem all_no {p:Int→Bool} {xs:List Int} {k:Nat} {x:Int} (h:xs[k]? = some x) (hx:p x=false):xs.all p=false:=by
 rw [List.all_eq_false]
 exact ⟨x,List.mem_of_getElem? h,by simp [hx]⟩
theorem all_snoc {p:Int→Bool} {xs:List Int} {k:Nat} {x:Int} (h:xs[k]? = some x) (ha:(xs.take k).all p=true) (hx:p x=true):(xs.take (k + 1)).all p=true:=by
 rw [take_snoc h,List.all_append,ha]
 simp [hx]
set_option linter.unusedVariables false in
theorem iIsReg (A:Option Addr) (c:Nat) (xs:List Int) (w:World) (hc:Cells w w.heap.size A (ints xs)) (hn:xs.length≤1000000000) :
  Calls Tryz.prog 193 #[.slice A xs.length c] w fun e w'=>e=.returned (.bool (xs.all regB))∧w=w':=by
 go_enter Tryz.func193,Tryz.ntmps193
 go_wp2
 go_loop [4,7] (fun _ i=>∃ j:Nat,j≤xs.length∧i=.int .i64 j∧(xs.take j).all regB=true) (fun _ i=>xs.length - (intOf i).toNat)
 case atStart=>exact ⟨0,Nat.zero_le _,rfl,rfl⟩
 case round =>
  obtain ⟨j,hj,rfl,hall⟩:=hrel
  by_cases hlt:j < xs.length
  ·obtain ⟨x,hx1⟩:∃ x,xs[j]? = some x:=⟨_,List.getElem?_eq_getElem hlt⟩
   obtain ⟨b,off,rfl,hB,hcl⟩:=hc (by rw [ints_length]; omega)
   have hcell:w.cell? ⟨b,off + j,none⟩=some (.int .i64 x):=hcl j _ (ints_get hx1)
   have HW:=hid (fun w=>iWithin x 0 7 w)
   cases hr:regB x
   ·have HN:=hid (all_no hx1 hr)
    have hin:inB x 0 7=false:=hr
    rw [hin] at HW
    clear hcl hc hx1 hall hr hin
    go_wp2_with (go_at_call 56; refine (HW.out _).mono ?_; rintro e w' ⟨rfl,rfl⟩)
    go_ret
    exact ⟨by rw [HN.out]; rfl,rfl⟩
   ·have HA:=hid (all_snoc hx1 hall hr)
    have hin:inB x 0 7=true:=hr
    rw [hin] at HW
    clear hcl hc hx1 hall hr hin
    go_wp2_with (go_at_call 56; refine (HW.out _).mono ?_; rintro e w' ⟨rfl,rfl⟩)
    go_round
    case rel=>exact ⟨j + 1,by omega,by go_num,HA.out⟩
    case measure=>simp [intOf]; omega
  ·obtain rfl:j=xs.length:=by omega
   rw [List.take_length] at hall
   have HA:=hid hall
   clear hall
   go_wp2
   go_ret
   exact ⟨by rw [HA.out]; rfl,rfl⟩
theorem cells_blk {w:World} {b t:Nat} {xs:List Int} (h:Blk w b t (ints xs).toArray):Cells w w.heap.size (some ⟨b,0,none⟩) (ints xs):=fun _ =>
 ⟨b,0,rfl,h.lt,fun i v hv=>by
  rw [Nat.zero_add,h.cell i]
  simpa using hv⟩
theorem iReg1 (a:Int) (c b:Nat) (w:World) (h:Blk w b 3 #[.int .i64 a]) :
  Calls Tryz.prog 193 #[.slice (some ⟨b,0,none⟩) 1 c] w fun e w'=>e=.returned (.bool (regB a))∧w=w':=by
 have h:=iIsReg (some ⟨b,0,none⟩) c [a] w (cells_blk h) (by simp)
 simpa using h
theorem iReg3 (x y z:Int) (c b:Nat) (w:World) (h:Blk w b 3 #[.int .i64 x,.int .i64 y,.int .i64 z]) :
  Calls Tryz.prog 193 #[.slice (some ⟨b,0,none⟩) 3 c] w fun e w'=>e=.returned (.bool (regB x && (regB y && regB z)))∧w=w':=by
 have h:=iIsReg (some ⟨b,0,none⟩) c [x,y,z] w (cells_blk h) (by simp)
 simpa using h
theorem iReg4 (x y z u:Int) (c b:Nat) (w:World) (h:Blk w b 3 #[.int .i64 x,.int .i64 y,.int .i64 z,.int .i64 u]) :
  Calls Tryz.prog 193 #[.slice (some ⟨b,0,none⟩) 4 c] w fun e w'=>e=.returned (.bool (regB x && (regB y && (regB z && regB u))))∧w=w':=by
 have h:=iIsReg (some ⟨b,0,none⟩) c [x,y,z,u] w (cells_blk h) (by simp)
 simpa using h
theorem iIsBinary (o:Int) (w:World):Calls Tryz.prog 194 #[.int .i64 o] w fun e w'=>e=.returned (.bool (inB o 3 9))∧w=w':=by
 go_enter Tryz.func194,Tryz.ntmps194
 go_wp2_with (go_at_call 56; refine (iWithin _ _ _ _).mono ?_; rintro e w' ⟨rfl,rfl⟩)
 go_ret
 exact ⟨rfl,rfl⟩
set_option maxRecDepth 100000 in
set_option maxHeartbeats 3200000 in
theorem iStmtOk (o d a b c n:Int) (w:World) :
  Calls Tryz.prog 184 #[.agg #[.int .i64 o,.int .i64 d,.int .i64 a,.int .i64 b,.int .i64 c,.int .i64 n]] w fun e w'=>e=.returned (.bool (stmtB ⟨o,d,a,b,c,n⟩))∧Below w.heap.size w w':=by
 by_cases h1:o=1
 ·subst h1
  cases h1:(a == 0); rotate_left
  cases h2:(b == 0); rotate_left
  cases h3:(c == 0); rotate_left
  cases h4:regB d
  all_goals
   go_enter Tryz.func184,Tryz.ntmps184
   go_wp2_with (first | (go_at_call 193; refine (iReg1 d _ _ _ (by exact blkcBy)).mono ?_; rintro e w' ⟨rfl,rfl⟩) | (go_at_call 56; refine (iWithin _ _ _ _).mono ?_; rintro e w' ⟨rfl,rfl⟩))
   go_ret
   refine ⟨ret_bool (by rw [stmtB_1]; simp [*]),?_⟩
   exact belBy
 by_cases h2:o=2
 ·subst h2
  cases h1:(b == 0); rotate_left
  cases h2:(c == 0); rotate_left
  cases h3:regB d; rotate_left
  cases h4:inB a 0 4
  all_goals
   go_enter Tryz.func184,Tryz.ntmps184
   go_wp2_with (first | (go_at_call 193; refine (iReg1 d _ _ _ (by exact blkcBy)).mono ?_; rintro e w' ⟨rfl,rfl⟩) | (go_at_call 56; refine (iWithin _ _ _ _).mono ?_; rintro e w' ⟨rfl,rfl⟩))
   go_ret
   refine ⟨ret_bool (by rw [stmtB_2]; simp [*]),?_⟩
   exact belBy
 cases h3:inB o 3 9; rotate_left
 ·have HS:=hid (stmtB_3 d a b c n h3)
  have e1:(o == 1)=false:=by simpa using h1
  have e2:(o == 2)=false:=by simpa using h2
  have HB:=hid (fun w=>iIsBinary o w)
  rw [h3] at HB
  clear h1 h2 h3
  cases h1:(c == 0); rotate_left
  cases h2:(n == 0)
  all_goals
   go_enter Tryz.func184,Tryz.ntmps184
   go_wp2_with (first | (go_at_call 193; refine (iReg3 d a b _ _ _ (by exact blkcBy)).mono ?_; rintro e w' ⟨rfl,rfl⟩) | (go_at_call 194; refine (HB.out _).mono ?_; rintro e w' ⟨rfl,rfl⟩))
   go_ret
   refine ⟨ret_bool (by rw [HS.out]; simp [*]),?_⟩
   exact belBy
 have HB:=hid (fun w=>iIsBinary o w)
 rw [h3] at HB
 by_cases h10:o=10
 ·subst h10
  cases h1:(n == 0)
  all_goals
   go_enter Tryz.func184,Tryz.ntmps184
   go_wp2_with (first | (go_at_call 193; refine (iReg4 d a b c _ _ _ (by exact blkcBy)).mono ?_; rintro e w' ⟨rfl,rfl⟩) | (go_at_call 194; refine (HB.out _).mono ?_; rintro e w' ⟨rfl,rfl⟩))
   go_ret
   refine ⟨ret_bool (by rw [stmtB_10]; simp [*]),?_⟩
   exact belBy
 by_cases h11:o=11
 ·subst h11
  cases h1:(d == 0); rotate_left
  cases h2:(b == 0); rotate_left
  cases h3:(c == 0); rotate_left
  cases h4:(n == 0)
  all_goals
   go_enter Tryz.func184,Tryz.ntmps184
   go_wp2_with (first | (go_at_call 193; refine (iReg1 a _ _ _ (by exact blkcBy)).mono ?_; rintro e w' ⟨rfl,rfl⟩) | (go_at_call 194; refine (HB.out _).mono ?_; rintro e w' ⟨rfl,rfl⟩))
   go_ret
   refine ⟨ret_bool (by rw [stmtB_11]; simp [*]),?_⟩
   exact belBy
 by_cases h12:o=12
 ·subst h12
  cases h1:(d == 0); rotate_left
  cases h2:(a == 0); rotate_left
  cases h3:(b == 0); rotate_left
  cases h4:(c == 0)
  all_goals
   go_enter Tryz.func184,Tryz.ntmps184
   go_wp2_with (first | (go_at_call 194; refine (HB.out _).mono ?_; rintro e w' ⟨rfl,rfl⟩) | (go_at_call 56; refine (iWithin _ _ _ _).mono ?_; rintro e w' ⟨rfl,rfl⟩))
   go_ret
   refine ⟨ret_bool (by rw [stmtB_12]; simp [*]),?_⟩
   exact belBy
 have HS:=hid (stmtB_13 d a b c n h1 h2 h3 h10 h11 h12)
 have e1:(o == 1)=false:=by simpa using h1
 have e2:(o == 2)=false:=by simpa using h2
 have e3:(o == 10)=false:=by simpa using h10
 have e4:(o == 11)=false:=by simpa using h11
 have e5:(o == 12)=false:=by simpa using h12
 clear h1 h2 h3 h10 h11 h12
 cases h1:(o == 13); rotate_left
 cases h2:(d == 0); rotate_left
 cases h3:(a == 0); rotate_left
 cases h4:(b == 0); rotate_left
 cases h5:(c == 0); rotate_left
 cases h6:(n == 0)
 all_goals
  go_enter Tryz.func184,Tryz.ntmps184
  go_wp2_with (go_at_call 194; refine (HB.out _).mono ?_; rintro e w' ⟨rfl,rfl⟩)
  go_ret
  refine ⟨ret_bool (by rw [HS.out]; simp [*]),?_⟩
  exact belBy
open Go.RowKit
theorem sReg (x:Int) (w:World):Calls Tryz.prog 151 #[.int .i64 x] w fun e w'=>e=.returned (.bool (regB x))∧w=w':=by
 go_enter Tryz.func151,Tryz.ntmps151
 go_wp2_with (go_at_call 123; refine (sWithin _ _ _ _).mono ?_; rintro e w' ⟨rfl,rfl⟩)
 go_ret
 exact ⟨rfl,rfl⟩
set_option maxHeartbeats 1600000 in
theorem sPlainX (o d a b c n:Int) (w:World) :
  Calls Tryz.prog 147 #[.agg #[.int .i64 o,.int .i64 d,.int .i64 a,.int .i64 b,.int .i64 c,.int .i64 n]] w fun e w' =>
   e=.returned (.agg #[.int .i64 o,.int .i64 (pick (o == 1 || o == 2 || inB o 3 9 || o == 10) d 0),.int .i64 (pick (o == 2 || inB o 3 9 || o == 10 || o == 11) a 0),.int .i64 (pick (inB o 3 9 || o == 10) b 0),.int .i64 (pick (o == 10) c 0),.int .i64 (pick (o == 1 || o == 2 || o == 12) n 0)])∧Below w.heap.size w w':=by
 cases h1:(o == 1)
 case true =>
  obtain rfl:o=1:=by simpa using h1
  go_enter Tryz.func147,Tryz.ntmps147
  go_wp2
  go_returns
  refine ⟨rfl,?_⟩
  exact belBy
 cases h2:(o == 2)
 case true =>
  obtain rfl:o=2:=by simpa using h2
  go_enter Tryz.func147,Tryz.ntmps147
  go_wp2
  go_returns
  refine ⟨rfl,?_⟩
  exact belBy
 cases h3:inB o 3 9
 case true =>
  have e4:(o == 10)=false:=by have:=inB_iff.1 h3; simp; omega
  have e5:(o == 11)=false:=by have:=inB_iff.1 h3; simp; omega
  have e6:(o == 12)=false:=by have:=inB_iff.1 h3; simp; omega
  go_enter Tryz.func147,Tryz.ntmps147
  go_wp2_with (go_at_call 123; refine (sWithin _ _ _ _).mono ?_; rintro e w' ⟨rfl,rfl⟩)
  go_returns
  refine ⟨by rw [e4,e5,e6]; rfl,?_⟩
  exact belBy
 cases h4:(o == 10)
 case true =>
  obtain rfl:o=10:=by simpa using h4
  go_enter Tryz.func147,Tryz.ntmps147
  go_wp2_with (go_at_call 123; refine (sWithin _ _ _ _).mono ?_; rintro e w' ⟨rfl,rfl⟩)
  go_returns
  refine ⟨rfl,?_⟩
  exact belBy
 cases h5:(o == 11)
 case true =>
  obtain rfl:o=11:=by simpa using h5
  go_enter Tryz.func147,Tryz.ntmps147
  go_wp2_with (go_at_call 123; refine (sWithin _ _ _ _).mono ?_; rintro e w' ⟨rfl,rfl⟩)
  go_returns
  refine ⟨rfl,?_⟩
  exact belBy
 cases h6:(o == 12)
 case true =>
  obtain rfl:o=12:=by simpa using h6
  go_enter Tryz.func147,Tryz.ntmps147
  go_wp2_with (go_at_call 123; refine (sWithin _ _ _ _).mono ?_; rintro e w' ⟨rfl,rfl⟩)
  go_returns
  refine ⟨rfl,?_⟩
  exact belBy
 go_enter Tryz.func147,Tryz.ntmps147
 go_wp2_with (go_at_call 123; refine (sWithin _ _ _ _).mono ?_; rintro e w' ⟨rfl,rfl⟩)
 go_returns
 refine ⟨rfl,?_⟩
 exact belBy
theorem in_five (a:Int):inB a 0 4=(regB a && decide (a < 5)):=by
 unfold regB
 rw [Bool.eq_iff_iff,Bool.and_eq_true,decide_eq_true_iff,inB_iff,inB_iff]
 omega
set_option maxRecDepth 100000 in
set_option maxHeartbeats 3200000 in
theorem sStmtOk (o d a b c n:Int) (w:World) :
  Calls Tryz.prog 87 #[.agg #[.int .i64 o,.int .i64 d,.int .i64 a,.int .i64 b,.int .i64 c,.int .i64 n]] w fun e w'=>e=.returned (.bool (stmtB ⟨o,d,a,b,c,n⟩))∧Below w.heap.size w w':=by
 have z0:regB 0=true:=rfl
 have HP:=hid (fun w=>sPlainX o d a b c n w)
 by_cases h1:o=1
 ·subst h1
  simp only [show ((1:Int) == 1)=true from rfl,show ((1:Int) == 2)=false from rfl,show ((1:Int) == 10)=false from rfl,show ((1:Int) == 11)=false from rfl,show ((1:Int) == 12)=false from rfl,show inB 1 3 9=false from rfl,Bool.or_false,pick_yes,pick_no] at HP
  cases h1:(a == 0); rotate_left
  cases h2:(b == 0); rotate_left
  cases h3:(c == 0); rotate_left
  cases h4:regB d
  all_goals
   have G:=hid (stmtB_1 d a b c n)
   try rw [h1] at G
   try rw [h2] at G
   try rw [h3] at G
   try rw [h4] at G
   try (have h0:=eq_of_beq h1; subst h0)
   try (have h0:=eq_of_beq h2; subst h0)
   try (have h0:=eq_of_beq h3; subst h0)
   go_enter Tryz.func87,Tryz.ntmps87
   go_wp2_with fail
   apply wp_forget1 (b0:=w.heap.size) (w0:=w) (B:=w.heap.size)
   focus (exact blkBy)
   focus (exact belBy)
   intro W1 k0 hbW
   have c0:=k0.cell
   have f0:=k0.frozen
   have z0:=k0.lt
   have q0:=fun (x:Later W1) (o:Nat)=>(k0.below x.below k0.lt).cell o
   refine wp_region_later (by kernel_rfl) (by kernel_rfl) ?_
   repeat (go_big_quiet_step (first | (go_at_call 151; exact Calls.later_same (sReg _ _)) | (go_at_call 147; exact Calls.later (HP.out _))))
   refine wpQuiet_nil ?_
   rintro _ ⟨⟨w1,hb1⟩,rfl⟩
   try dsimp only
   obtain ⟨z1a,c1a,f1a,k1a⟩:=bfact hb1 k0
   clear q0
   go_wp2_with (go_at_call 123; refine (sWithin _ _ _ _).mono ?_; rintro e w' ⟨rfl,rfl⟩)
   go_ret
   refine ⟨ret_bool (by rw [G.out]; simp),?_⟩
   exact belBy
 by_cases h2:o=2
 ·subst h2
  simp only [show ((2:Int) == 1)=false from rfl,show ((2:Int) == 2)=true from rfl,show ((2:Int) == 10)=false from rfl,show ((2:Int) == 11)=false from rfl,show ((2:Int) == 12)=false from rfl,show inB 2 3 9=false from rfl,Bool.or_true,Bool.or_false,pick_yes,pick_no] at HP
  obtain ⟨v,h6⟩:∃ v,decide (a < 5)=v:=⟨_,rfl⟩
  cases v
  all_goals
   cases h2:(b == 0); rotate_left
   cases h3:(c == 0); rotate_left
   cases h4:regB d; rotate_left
   cases h5:regB a
   all_goals
    have G:=hid (stmtB_2 d a b c n)
    rw [in_five] at G
    try rw [h2] at G
    try rw [h3] at G
    try rw [h4] at G
    try rw [h5] at G
    try rw [h6] at G
    try (have h0:=eq_of_beq h2; subst h0)
    try (have h0:=eq_of_beq h3; subst h0)
    go_enter Tryz.func87,Tryz.ntmps87
    go_wp2_with fail
    apply wp_forget1 (b0:=w.heap.size) (w0:=w) (B:=w.heap.size)
    focus (exact blkBy)
    focus (exact belBy)
    intro W1 k0 hbW
    have c0:=k0.cell
    have f0:=k0.frozen
    have z0:=k0.lt
    have q0:=fun (x:Later W1) (o:Nat)=>(k0.below x.below k0.lt).cell o
    refine wp_region_later (by kernel_rfl) (by kernel_rfl) ?_
    repeat (go_big_quiet_step (first | (go_at_call 151; exact Calls.later_same (sReg _ _)) | (go_at_call 147; exact Calls.later (HP.out _))))
    refine wpQuiet_nil ?_
    rintro _ ⟨⟨w1,hb1⟩,rfl⟩
    try dsimp only
    obtain ⟨z1a,c1a,f1a,k1a⟩:=bfact hb1 k0
    clear q0
    go_wp2_with (go_at_call 123; refine (sWithin _ _ _ _).mono ?_; rintro e w' ⟨rfl,rfl⟩)
    go_ret
    refine ⟨ret_bool (by rw [G.out]; simp),?_⟩
    exact belBy
 cases h3:inB o 3 9; rotate_left
 ·have HS:=hid (stmtB_3 d a b c n h3)
  have e1:(o == 1)=false:=by simpa using h1
  have e2:(o == 2)=false:=by simpa using h2
  have e4:(o == 10)=false:=by have:=inB_iff.1 h3; simp; omega
  have e5:(o == 11)=false:=by have:=inB_iff.1 h3; simp; omega
  have e6:(o == 12)=false:=by have:=inB_iff.1 h3; simp; omega
  have e7:inB o 3 13=true:=by have:=inB_iff.1 h3; exact inB_iff.2 (by omega)
  have HI:=hid (fun w=>sWithin o 3 13 w)
  rw [e7] at HI
  rw [e1,e2,e4,e5,e6,h3] at HP
  simp only [Bool.or_true,Bool.or_false,pick_yes,pick_no] at HP
  clear h1 h2 h3 e4 e5 e7
  cases h1:(c == 0); rotate_left
  cases h2:(n == 0); rotate_left
  cases h3:regB d; rotate_left
  cases h4:regB a; rotate_left
  cases h5:regB b
  all_goals
   have G:=HS
   try rw [h1] at G
   try rw [h2] at G
   try rw [h3] at G
   try rw [h4] at G
   try rw [h5] at G
   try (have h0:=eq_of_beq h1; subst h0)
   try (have h0:=eq_of_beq h2; subst h0)
   go_enter Tryz.func87,Tryz.ntmps87
   go_wp2_with fail
   apply wp_forget1 (b0:=w.heap.size) (w0:=w) (B:=w.heap.size)
   focus (exact blkBy)
   focus (exact belBy)
   intro W1 k0 hbW
   have c0:=k0.cell
   have f0:=k0.frozen
   have z0:=k0.lt
   have q0:=fun (x:Later W1) (o:Nat)=>(k0.below x.below k0.lt).cell o
   refine wp_region_later (by kernel_rfl) (by kernel_rfl) ?_
   repeat (go_big_quiet_step (first | (go_at_call 151; exact Calls.later_same (sReg _ _)) | (go_at_call 147; exact Calls.later (HP.out _))))
   refine wpQuiet_nil ?_
   rintro _ ⟨⟨w1,hb1⟩,rfl⟩
   try dsimp only
   obtain ⟨z1a,c1a,f1a,k1a⟩:=bfact hb1 k0
   clear q0
   go_wp2_with (go_at_call 123; refine (HI.out _).mono ?_; rintro e w' ⟨rfl,rfl⟩)
   go_ret
   refine ⟨ret_bool (by rw [G.out]; simp),?_⟩
   exact belBy
 by_cases h10:o=10
 ·subst h10
  simp only [show ((10:Int) == 1)=false from rfl,show ((10:Int) == 2)=false from rfl,show ((10:Int) == 10)=true from rfl,show ((10:Int) == 11)=false from rfl,show ((10:Int) == 12)=false from rfl,show inB 10 3 9=false from rfl,Bool.or_true,Bool.or_false,pick_yes,pick_no] at HP
  have e7:inB 10 3 13=true:=rfl
  cases h2:(n == 0); rotate_left
  cases h3:regB d; rotate_left
  cases h4:regB a; rotate_left
  cases h5:regB b; rotate_left
  cases h6:regB c
  all_goals
   have G:=hid (stmtB_10 d a b c n)
   try rw [h2] at G
   try rw [h3] at G
   try rw [h4] at G
   try rw [h5] at G
   try rw [h6] at G
   try (have h0:=eq_of_beq h2; subst h0)
   go_enter Tryz.func87,Tryz.ntmps87
   go_wp2_with fail
   apply wp_forget1 (b0:=w.heap.size) (w0:=w) (B:=w.heap.size)
   focus (exact blkBy)
   focus (exact belBy)
   intro W1 k0 hbW
   have c0:=k0.cell
   have f0:=k0.frozen
   have z0:=k0.lt
   have q0:=fun (x:Later W1) (o:Nat)=>(k0.below x.below k0.lt).cell o
   refine wp_region_later (by kernel_rfl) (by kernel_rfl) ?_
   repeat (go_big_quiet_step (first | (go_at_call 151; exact Calls.later_same (sReg _ _)) | (go_at_call 147; exact Calls.later (HP.out _))))
   refine wpQuiet_nil ?_
   rintro _ ⟨⟨w1,hb1⟩,rfl⟩
   try dsimp only
   obtain ⟨z1a,c1a,f1a,k1a⟩:=bfact hb1 k0
   clear q0
   go_wp2_with (go_at_call 123; refine (sWithin _ _ _ _).mono ?_; rintro e w' ⟨rfl,rfl⟩)
   go_ret
   refine ⟨ret_bool (by rw [G.out]; first | rfl | simp),?_⟩
   exact belBy
 by_cases h11:o=11
 ·subst h11
  simp only [show ((11:Int) == 1)=false from rfl,show ((11:Int) == 2)=false from rfl,show ((11:Int) == 10)=false from rfl,show ((11:Int) == 11)=true from rfl,show ((11:Int) == 12)=false from rfl,show inB 11 3 9=false from rfl,Bool.or_true,Bool.or_false,pick_yes,pick_no] at HP
  cases h2:(d == 0); rotate_left
  cases h3:(b == 0); rotate_left
  cases h4:(c == 0); rotate_left
  cases h5:(n == 0); rotate_left
  cases h6:regB a
  all_goals
   have G:=hid (stmtB_11 d a b c n)
   try rw [h2] at G
   try rw [h3] at G
   try rw [h4] at G
   try rw [h5] at G
   try rw [h6] at G
   try (have h0:=eq_of_beq h2; subst h0)
   try (have h0:=eq_of_beq h3; subst h0)
   try (have h0:=eq_of_beq h4; subst h0)
   try (have h0:=eq_of_beq h5; subst h0)
   go_enter Tryz.func87,Tryz.ntmps87
   go_wp2_with fail
   apply wp_forget1 (b0:=w.heap.size) (w0:=w) (B:=w.heap.size)
   focus (exact blkBy)
   focus (exact belBy)
   intro W1 k0 hbW
   have c0:=k0.cell
   have f0:=k0.frozen
   have z0:=k0.lt
   have q0:=fun (x:Later W1) (o:Nat)=>(k0.below x.below k0.lt).cell o
   refine wp_region_later (by kernel_rfl) (by kernel_rfl) ?_
   repeat (go_big_quiet_step (first | (go_at_call 151; exact Calls.later_same (sReg _ _)) | (go_at_call 147; exact Calls.later (HP.out _))))
   refine wpQuiet_nil ?_
   rintro _ ⟨⟨w1,hb1⟩,rfl⟩
   try dsimp only
   obtain ⟨z1a,c1a,f1a,k1a⟩:=bfact hb1 k0
   clear q0
   go_wp2_with (go_at_call 123; refine (sWithin _ _ _ _).mono ?_; rintro e w' ⟨rfl,rfl⟩)
   go_ret
   refine ⟨ret_bool (by rw [G.out]; first | rfl | simp),?_⟩
   exact belBy
 by_cases h12:o=12
 ·subst h12
  simp only [show ((12:Int) == 1)=false from rfl,show ((12:Int) == 2)=false from rfl,show ((12:Int) == 10)=false from rfl,show ((12:Int) == 11)=false from rfl,show ((12:Int) == 12)=true from rfl,show inB 12 3 9=false from rfl,Bool.or_true,Bool.or_false,pick_yes,pick_no] at HP
  cases h2:(d == 0); rotate_left
  cases h3:(a == 0); rotate_left
  cases h4:(b == 0); rotate_left
  cases h5:(c == 0)
  all_goals
   have G:=hid (stmtB_12 d a b c n)
   try rw [h2] at G
   try rw [h3] at G
   try rw [h4] at G
   try rw [h5] at G
   try (have h0:=eq_of_beq h2; subst h0)
   try (have h0:=eq_of_beq h3; subst h0)
   try (have h0:=eq_of_beq h4; subst h0)
   try (have h0:=eq_of_beq h5; subst h0)
   go_enter Tryz.func87,Tryz.ntmps87
   go_wp2_with fail
   apply wp_forget1 (b0:=w.heap.size) (w0:=w) (B:=w.heap.size)
   focus (exact blkBy)
   focus (exact belBy)
   intro W1 k0 hbW
   have c0:=k0.cell
   have f0:=k0.frozen
   have z0:=k0.lt
   have q0:=fun (x:Later W1) (o:Nat)=>(k0.below x.below k0.lt).cell o
   refine wp_region_later (by kernel_rfl) (by kernel_rfl) ?_
   repeat (go_big_quiet_step (first | (go_at_call 151; exact Calls.later_same (sReg _ _)) | (go_at_call 147; exact Calls.later (HP.out _))))
   refine wpQuiet_nil ?_
   rintro _ ⟨⟨w1,hb1⟩,rfl⟩
   try dsimp only
   obtain ⟨z1a,c1a,f1a,k1a⟩:=bfact hb1 k0
   clear q0
   go_wp2_with (go_at_call 123; refine (sWithin _ _ _ _).mono ?_; rintro e w' ⟨rfl,rfl⟩)
   go_ret
   refine ⟨ret_bool (by rw [G.out]; simp),?_⟩
   exact belBy
 have HS:=hid (stmtB_13 d a b c n h1 h2 h3 h10 h11 h12)
 have e1:(o == 1)=false:=by simpa using h1
 have e2:(o == 2)=false:=by simpa using h2
 have e4:(o == 10)=false:=by simpa using h10
 have e5:(o == 11)=false:=by simpa using h11
 have e6:(o == 12)=false:=by simpa using h12
 have e7:inB o 3 13=(o == 13):=by
  have h3':=inB_no.1 h3
  rw [Bool.eq_iff_iff,inB_iff,beq_iff_eq]
  omega
 have HI:=hid (fun w=>sWithin o 3 13 w)
 rw [e7] at HI
 rw [e1,e2,e4,e5,e6,h3] at HP
 simp only [Bool.or_false,pick_no] at HP
 clear h1 h2 h3 h10 h11 h12 e4 e5 e7
 cases h2:(d == 0); rotate_left
 cases h3:(a == 0); rotate_left
 cases h4:(b == 0); rotate_left
 cases h5:(c == 0); rotate_left
 cases h6:(n == 0); rotate_left
 cases h7:(o == 13)
 all_goals
  have G:=HS
  try rw [h2] at G
  try rw [h3] at G
  try rw [h4] at G
  try rw [h5] at G
  try rw [h6] at G
  try rw [h7] at G HI
  try (have h0:=eq_of_beq h2; subst h0)
  try (have h0:=eq_of_beq h3; subst h0)
  try (have h0:=eq_of_beq h4; subst h0)
  try (have h0:=eq_of_beq h5; subst h0)
  try (have h0:=eq_of_beq h6; subst h0)
  go_enter Tryz.func87,Tryz.ntmps87
  go_wp2_with fail
  apply wp_forget1 (b0:=w.heap.size) (w0:=w) (B:=w.heap.size)
  focus (exact blkBy)
  focus (exact belBy)
  intro W1 k0 hbW
  have c0:=k0.cell
  have f0:=k0.frozen
  have z0:=k0.lt
  have q0:=fun (x:Later W1) (o:Nat)=>(k0.below x.below k0.lt).cell o
  refine wp_region_later (by kernel_rfl) (by kernel_rfl) ?_
  repeat (go_big_quiet_step (first | (go_at_call 151; exact Calls.later_same (sReg _ _)) | (go_at_call 147; exact Calls.later (HP.out _))))
  refine wpQuiet_nil ?_
  rintro _ ⟨⟨w1,hb1⟩,rfl⟩
  try dsimp only
  obtain ⟨z1a,c1a,f1a,k1a⟩:=bfact hb1 k0
  clear q0
  go_wp2_with (go_at_call 123; refine (HI.out _).mono ?_; rintro e w' ⟨rfl,rfl⟩)
  go_ret
  refine ⟨ret_bool (by rw [G.out]; simp),?_⟩
  exact belBy
end Go.Proofs.YtihbaieiempjeaaGreat
