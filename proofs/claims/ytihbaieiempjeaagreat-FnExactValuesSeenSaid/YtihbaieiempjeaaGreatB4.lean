/- Lemmas of the proof: StmtS, Prg. -/
import Derived.Test.YtihbaieiempjeaaGreatB0
import Derived.Test.YtihbaieiempjeaaGreatB3
import Derived.Deep.DeepCutAuto
namespace Go.Proofs.YtihbaieiempjeaaGreat
open Go.RowKit
theorem sReg (x:Int) (w:World):Calls Tryz.prog 151 #[.int .i64 x] w fun e w'=>e=.returned (.bool (regB x))∧w=w':=by
 go_enter Tryz.func151,Tryz.ntmps151
 go_wp2_with (go_at_call 123; refine (sWithin _ _ _ _).mono ?_; rintro e w' ⟨rfl,rfl⟩)
 go_ret
 exact ⟨rfl,rfl⟩
set_option maxHeartbeats 1600000 in
theorem sPlainX (o d a b c n:Int) (w:World) :
  Calls Tryz.prog 147 #[.agg #[.int .i64 o,.int .i64 d,.int .i64 a,.int .i64 b,.int .i64 c,.int .i64 n]] w fun e w' =>
   e=.returned (.agg #[.int .i64 o,.int .i64 (pick (o == 1 || o == 2 || inB o 3 9 || o == 10) d 0),.int .i64 (pick (o == 2 || inB o 3 9 || o == 10 || o == 11) a 0),.int .i64 (pick (inB o 3 9 || o == 10) b 0),.int .i64 (pick (o == 10) c 0),.int .i64 (pick (o == 1 || o == 2 || o == 12) n 0)])∧Below w.heap.size w w':=by
 cases h1:(o == 1)
 case true =>
  obtain rfl:o=1:=by simpa using h1
  go_enter Tryz.func147,Tryz.ntmps147
  go_wp2
  go_returns
  refine ⟨rfl,?_⟩
  exact belBy
 cases h2:(o == 2)
 case true =>
  obtain rfl:o=2:=by simpa using h2
  go_enter Tryz.func147,Tryz.ntmps147
  go_wp2
  go_returns
  refine ⟨rfl,?_⟩
  exact belBy
 cases h3:inB o 3 9
 case true =>
  have e4:(o == 10)=false:=by have:=inB_iff.1 h3; simp; omega
  have e5:(o == 11)=false:=by have:=inB_iff.1 h3; simp; omega
  have e6:(o == 12)=false:=by have:=inB_iff.1 h3; simp; omega
  go_enter Tryz.func147,Tryz.ntmps147
  go_wp2_with (go_at_call 123; refine (sWithin _ _ _ _).mono ?_; rintro e w' ⟨rfl,rfl⟩)
  go_returns
  refine ⟨by rw [e4,e5,e6]; rfl,?_⟩
  exact belBy
 cases h4:(o == 10)
 case true =>
  obtain rfl:o=10:=by simpa using h4
  go_enter Tryz.func147,Tryz.ntmps147
  go_wp2_with (go_at_call 123; refine (sWithin _ _ _ _).mono ?_; rintro e w' ⟨rfl,rfl⟩)
  go_returns
  refine ⟨rfl,?_⟩
  exact belBy
 cases h5:(o == 11)
 case true =>
  obtain rfl:o=11:=by simpa using h5
  go_enter Tryz.func147,Tryz.ntmps147
  go_wp2_with (go_at_call 123; refine (sWithin _ _ _ _).mono ?_; rintro e w' ⟨rfl,rfl⟩)
  go_returns
  refine ⟨rfl,?_⟩
  exact belBy
 cases h6:(o == 12)
 case true =>
  obtain rfl:o=12:=by simpa using h6
  go_enter Tryz.func147,Tryz.ntmps147
  go_wp2_with (go_at_call 123; refine (sWithin _ _ _ _).mono ?_; rintro e w' ⟨rfl,rfl⟩)
  go_returns
  refine ⟨rfl,?_⟩
  exact belBy
 go_enter Tryz.func147,Tryz.ntmps147
 go_wp2_with (go_at_call 123; refine (sWithin _ _ _ _).mono ?_; rintro e w' ⟨rfl,rfl⟩)
 go_returns
 refine ⟨rfl,?_⟩
 exact belBy
theorem in_five (a:Int):inB a 0 4=(regB a && decide (a < 5)):=by
 unfold regB
 rw [Bool.eq_iff_iff,Bool.and_eq_true,decide_eq_true_iff,inB_iff,inB_iff]
 omega
set_option maxRecDepth 100000 in
set_option maxHeartbeats 3200000 in
theorem sStmtOk (o d a b c n:Int) (w:World) :
  Calls Tryz.prog 87 #[.agg #[.int .i64 o,.int .i64 d,.int .i64 a,.int .i64 b,.int .i64 c,.int .i64 n]] w fun e w'=>e=.returned (.bool (stmtB ⟨o,d,a,b,c,n⟩))∧Below w.heap.size w w':=by
 have z0:regB 0=true:=rfl
 have HP:=hid (fun w=>sPlainX o d a b c n w)
 by_cases h1:o=1
 ·subst h1
  simp only [show ((1:Int) == 1)=true from rfl,show ((1:Int) == 2)=false from rfl,show ((1:Int) == 10)=false from rfl,show ((1:Int) == 11)=false from rfl,show ((1:Int) == 12)=false from rfl,show inB 1 3 9=false from rfl,Bool.or_false,pick_yes,pick_no] at HP
  cases h1:(a == 0); rotate_left
  cases h2:(b == 0); rotate_left
  cases h3:(c == 0); rotate_left
  cases h4:regB d
  all_goals
   have G:=hid (stmtB_1 d a b c n)
   try rw [h1] at G
   try rw [h2] at G
   try rw [h3] at G
   try rw [h4] at G
   try (have h0:=eq_of_beq h1; subst h0)
   try (have h0:=eq_of_beq h2; subst h0)
   try (have h0:=eq_of_beq h3; subst h0)
   go_enter Tryz.func87,Tryz.ntmps87
   go_wp2_with fail
   apply wp_forget1 (b0:=w.heap.size) (w0:=w) (B:=w.heap.size)
   focus (exact blkBy)
   focus (exact belBy)
   intro W1 k0 hbW
   have c0:=k0.cell
   have f0:=k0.frozen
   have z0:=k0.lt
   have q0:=fun (x:Later W1) (o:Nat)=>(k0.below x.below k0.lt).cell o
   refine wp_region_later (by kernel_rfl) (by kernel_rfl) ?_
   repeat (go_big_quiet_step (first | (go_at_call 151; exact Calls.later_same (sReg _ _)) | (go_at_call 147; exact Calls.later (HP.out _))))
   refine wpQuiet_nil ?_
   rintro _ ⟨⟨w1,hb1⟩,rfl⟩
   try dsimp only
   obtain ⟨z1a,c1a,f1a,k1a⟩:=bfact hb1 k0
   clear q0
   go_wp2_with (go_at_call 123; refine (sWithin _ _ _ _).mono ?_; rintro e w' ⟨rfl,rfl⟩)
   go_ret
   refine ⟨ret_bool (by rw [G.out]; simp),?_⟩
   exact belBy
 by_cases h2:o=2
 ·subst h2
  simp only [show ((2:Int) == 1)=false from rfl,show ((2:Int) == 2)=true from rfl,show ((2:Int) == 10)=false from rfl,show ((2:Int) == 11)=false from rfl,show ((2:Int) == 12)=false from rfl,show inB 2 3 9=false from rfl,Bool.or_true,Bool.or_false,pick_yes,pick_no] at HP
  obtain ⟨v,h6⟩:∃ v,decide (a < 5)=v:=⟨_,rfl⟩
  cases v
  all_goals
   cases h2:(b == 0); rotate_left
   cases h3:(c == 0); rotate_left
   cases h4:regB d; rotate_left
   cases h5:regB a
   all_goals
    have G:=hid (stmtB_2 d a b c n)
    rw [in_five] at G
    try rw [h2] at G
    try rw [h3] at G
    try rw [h4] at G
    try rw [h5] at G
    try rw [h6] at G
    try (have h0:=eq_of_beq h2; subst h0)
    try (have h0:=eq_of_beq h3; subst h0)
    go_enter Tryz.func87,Tryz.ntmps87
    go_wp2_with fail
    apply wp_forget1 (b0:=w.heap.size) (w0:=w) (B:=w.heap.size)
    focus (exact blkBy)
    focus (exact belBy)
    intro W1 k0 hbW
    have c0:=k0.cell
    have f0:=k0.frozen
    have z0:=k0.lt
    have q0:=fun (x:Later W1) (o:Nat)=>(k0.below x.below k0.lt).cell o
    refine wp_region_later (by kernel_rfl) (by kernel_rfl) ?_
    repeat (go_big_quiet_step (first | (go_at_call 151; exact Calls.later_same (sReg _ _)) | (go_at_call 147; exact Calls.later (HP.out _))))
    refine wpQuiet_nil ?_
    rintro _ ⟨⟨w1,hb1⟩,rfl⟩
    try dsimp only
    obtain ⟨z1a,c1a,f1a,k1a⟩:=bfact hb1 k0
    clear q0
    go_wp2_with (go_at_call 123; refine (sWithin _ _ _ _).mono ?_; rintro e w' ⟨rfl,rfl⟩)
    go_ret
    refine ⟨ret_bool (by rw [G.out]; simp),?_⟩
    exact belBy
 cases h3:inB o 3 9; rotate_left
 ·have HS:=hid (stmtB_3 d a b c n h3)
  have e1:(o == 1)=false:=by simpa using h1
  have e2:(o == 2)=false:=by simpa using h2
  have e4:(o == 10)=false:=by have:=inB_iff.1 h3; simp; omega
  have e5:(o == 11)=false:=by have:=inB_iff.1 h3; simp; omega
  have e6:(o == 12)=false:=by have:=inB_iff.1 h3; simp; omega
  have e7:inB o 3 13=true:=by have:=inB_iff.1 h3; exact inB_iff.2 (by omega)
  have HI:=hid (fun w=>sWithin o 3 13 w)
  rw [e7] at HI
  rw [e1,e2,e4,e5,e6,h3] at HP
  simp only [Bool.or_true,Bool.or_false,pick_yes,pick_no] at HP
  clear h1 h2 h3 e4 e5 e7
  cases h1:(c == 0); rotate_left
  cases h2:(n == 0); rotate_left
  cases h3:regB d; rotate_left
  cases h4:regB a; rotate_left
  cases h5:regB b
  all_goals
   have G:=HS
   try rw [h1] at G
   try rw [h2] at G
   try rw [h3] at G
   try rw [h4] at G
   try rw [h5] at G
   try (have h0:=eq_of_beq h1; subst h0)
   try (have h0:=eq_of_beq h2; subst h0)
   go_enter Tryz.func87,Tryz.ntmps87
   go_wp2_with fail
   apply wp_forget1 (b0:=w.heap.size) (w0:=w) (B:=w.heap.size)
   focus (exact blkBy)
   focus (exact belBy)
   intro W1 k0 hbW
   have c0:=k0.cell
   have f0:=k0.frozen
   have z0:=k0.lt
   have q0:=fun (x:Later W1) (o:Nat)=>(k0.below x.below k0.lt).cell o
   refine wp_region_later (by kernel_rfl) (by kernel_rfl) ?_
   repeat (go_big_quiet_step (first | (go_at_call 151; exact Calls.later_same (sReg _ _)) | (go_at_call 147; exact Calls.later (HP.out _))))
   refine wpQuiet_nil ?_
   rintro _ ⟨⟨w1,hb1⟩,rfl⟩
   try dsimp only
   obtain ⟨z1a,c1a,f1a,k1a⟩:=bfact hb1 k0
   clear q0
   go_wp2_with (go_at_call 123; refine (HI.out _).mono ?_; rintro e w' ⟨rfl,rfl⟩)
   go_ret
   refine ⟨ret_bool (by rw [G.out]; simp),?_⟩
   exact belBy
 by_cases h10:o=10
 ·subst h10
  simp only [show ((10:Int) == 1)=false from rfl,show ((10:Int) == 2)=false from rfl,show ((10:Int) == 10)=true from rfl,show ((10:Int) == 11)=false from rfl,show ((10:Int) == 12)=false from rfl,show inB 10 3 9=false from rfl,Bool.or_true,Bool.or_false,pick_yes,pick_no] at HP
  have e7:inB 10 3 13=true:=rfl
  cases h2:(n == 0); rotate_left
  cases h3:regB d; rotate_left
  cases h4:regB a; rotate_left
  cases h5:regB b; rotate_left
  cases h6:regB c
  all_goals
   have G:=hid (stmtB_10 d a b c n)
   try rw [h2] at G
   try rw [h3] at G
   try rw [h4] at G
   try rw [h5] at G
   try rw [h6] at G
   try (have h0:=eq_of_beq h2; subst h0)
   go_enter Tryz.func87,Tryz.ntmps87
   go_wp2_with fail
   apply wp_forget1 (b0:=w.heap.size) (w0:=w) (B:=w.heap.size)
   focus (exact blkBy)
   focus (exact belBy)
   intro W1 k0 hbW
   have c0:=k0.cell
   have f0:=k0.frozen
   have z0:=k0.lt
   have q0:=fun (x:Later W1) (o:Nat)=>(k0.below x.below k0.lt).cell o
   refine wp_region_later (by kernel_rfl) (by kernel_rfl) ?_
   repeat (go_big_quiet_step (first | (go_at_call 151; exact Calls.later_same (sReg _ _)) | (go_at_call 147; exact Calls.later (HP.out _))))
   refine wpQuiet_nil ?_
   rintro _ ⟨⟨w1,hb1⟩,rfl⟩
   try dsimp only
   obtain ⟨z1a,c1a,f1a,k1a⟩:=bfact hb1 k0
   clear q0
   go_wp2_with (go_at_call 123; refine (sWithin _ _ _ _).mono ?_; rintro e w' ⟨rfl,rfl⟩)
   go_ret
   refine ⟨ret_bool (by rw [G.out]; first | rfl | simp),?_⟩
   exact belBy
 by_cases h11:o=11
 ·subst h11
  simp only [show ((11:Int) == 1)=false from rfl,show ((11:Int) == 2)=false from rfl,show ((11:Int) == 10)=false from rfl,show ((11:Int) == 11)=true from rfl,show ((11:Int) == 12)=false from rfl,show inB 11 3 9=false from rfl,Bool.or_true,Bool.or_false,pick_yes,pick_no] at HP
  cases h2:(d == 0); rotate_left
  cases h3:(b == 0); rotate_left
  cases h4:(c == 0); rotate_left
  cases h5:(n == 0); rotate_left
  cases h6:regB a
  all_goals
   have G:=hid (stmtB_11 d a b c n)
   try rw [h2] at G
   try rw [h3] at G
   try rw [h4] at G
   try rw [h5] at G
   try rw [h6] at G
   try (have h0:=eq_of_beq h2; subst h0)
   try (have h0:=eq_of_beq h3; subst h0)
   try (have h0:=eq_of_beq h4; subst h0)
   try (have h0:=eq_of_beq h5; subst h0)
   go_enter Tryz.func87,Tryz.ntmps87
   go_wp2_with fail
   apply wp_forget1 (b0:=w.heap.size) (w0:=w) (B:=w.heap.size)
   focus (exact blkBy)
   focus (exact belBy)
   intro W1 k0 hbW
   have c0:=k0.cell
   have f0:=k0.frozen
   have z0:=k0.lt
   have q0:=fun (x:Later W1) (o:Nat)=>(k0.below x.below k0.lt).cell o
   refine wp_region_later (by kernel_rfl) (by kernel_rfl) ?_
   repeat (go_big_quiet_step (first | (go_at_call 151; exact Calls.later_same (sReg _ _)) | (go_at_call 147; exact Calls.later (HP.out _))))
   refine wpQuiet_nil ?_
   rintro _ ⟨⟨w1,hb1⟩,rfl⟩
   try dsimp only
   obtain ⟨z1a,c1a,f1a,k1a⟩:=bfact hb1 k0
   clear q0
   go_wp2_with (go_at_call 123; refine (sWithin _ _ _ _).mono ?_; rintro e w' ⟨rfl,rfl⟩)
   go_ret
   refine ⟨ret_bool (by rw [G.out]; first | rfl | simp),?_⟩
   exact belBy
 by_cases h12:o=12
 ·subst h12
  simp only [show ((12:Int) == 1)=false from rfl,show ((12:Int) == 2)=false from rfl,show ((12:Int) == 10)=false from rfl,show ((12:Int) == 11)=false from rfl,show ((12:Int) == 12)=true from rfl,show inB 12 3 9=false from rfl,Bool.or_true,Bool.or_false,pick_yes,pick_no] at HP
  cases h2:(d == 0); rotate_left
  cases h3:(a == 0); rotate_left
  cases h4:(b == 0); rotate_left
  cases h5:(c == 0)
  all_goals
   have G:=hid (stmtB_12 d a b c n)
   try rw [h2] at G
   try rw [h3] at G
   try rw [h4] at G
   try rw [h5] at G
   try (have h0:=eq_of_beq h2; subst h0)
   try (have h0:=eq_of_beq h3; subst h0)
   try (have h0:=eq_of_beq h4; subst h0)
   try (have h0:=eq_of_beq h5; subst h0)
   go_enter Tryz.func87,Tryz.ntmps87
   go_wp2_with fail
   apply wp_forget1 (b0:=w.heap.size) (w0:=w) (B:=w.heap.size)
   focus (exact blkBy)
   focus (exact belBy)
   intro W1 k0 hbW
   have c0:=k0.cell
   have f0:=k0.frozen
   have z0:=k0.lt
   have q0:=fun (x:Later W1) (o:Nat)=>(k0.below x.below k0.lt).cell o
   refine wp_region_later (by kernel_rfl) (by kernel_rfl) ?_
   repeat (go_big_quiet_step (first | (go_at_call 151; exact Calls.later_same (sReg _ _)) | (go_at_call 147; exact Calls.later (HP.out _))))
   refine wpQuiet_nil ?_
   rintro _ ⟨⟨w1,hb1⟩,rfl⟩
   try dsimp only
   obtain ⟨z1a,c1a,f1a,k1a⟩:=bfact hb1 k0
   clear q0
   go_wp2_with (go_at_call 123; refine (sWithin _ _ _ _).mono ?_; rintro e w' ⟨rfl,rfl⟩)
   go_ret
   refine ⟨ret_bool (by rw [G.out]; simp),?_⟩
   exact belBy
 have HS:=hid (stmtB_13 d a b c n h1 h2 h3 h10 h11 h12)
 have e1:(o == 1)=false:=by simpa using h1
 have e2:(o == 2)=false:=by simpa using h2
 have e4:(o == 10)=false:=by simpa using h10
 have e5:(o == 11)=false:=by simpa using h11
 have e6:(o == 12)=false:=by simpa using h12
 have e7:inB o 3 13=(o == 13):=by
  have h3':=inB_no.1 h3
  rw [Bool.eq_iff_iff,inB_iff,beq_iff_eq]
  omega
 have HI:=hid (fun w=>sWithin o 3 13 w)
 rw [e7] at HI
 rw [e1,e2,e4,e5,e6,h3] at HP
 simp only [Bool.or_false,pick_no] at HP
 clear h1 h2 h3 h10 h11 h12 e4 e5 e7
 cases h2:(d == 0); rotate_left
 cases h3:(a == 0); rotate_left
 cases h4:(b == 0); rotate_left
 cases h5:(c == 0); rotate_left
 cases h6:(n == 0); rotate_left
 cases h7:(o == 13)
 all_goals
  have G:=HS
  try rw [h2] at G
  try rw [h3] at G
  try rw [h4] at G
  try rw [h5] at G
  try rw [h6] at G
  try rw [h7] at G HI
  try (have h0:=eq_of_beq h2; subst h0)
  try (have h0:=eq_of_beq h3; subst h0)
  try (have h0:=eq_of_beq h4; subst h0)
  try (have h0:=eq_of_beq h5; subst h0)
  try (have h0:=eq_of_beq h6; subst h0)
  go_enter Tryz.func87,Tryz.ntmps87
  go_wp2_with fail
  apply wp_forget1 (b0:=w.heap.size) (w0:=w) (B:=w.heap.size)
  focus (exact blkBy)
  focus (exact belBy)
  intro W1 k0 hbW
  have c0:=k0.cell
  have f0:=k0.frozen
  have z0:=k0.lt
  have q0:=fun (x:Later W1) (o:Nat)=>(k0.below x.below k0.lt).cell o
  refine wp_region_later (by kernel_rfl) (by kernel_rfl) ?_
  repeat (go_big_quiet_step (first | (go_at_call 151; exact Calls.later_same (sReg _ _)) | (go_at_call 147; exact Calls.later (HP.out _))))
  refine wpQuiet_nil ?_
  rintro _ ⟨⟨w1,hb1⟩,rfl⟩
  try dsimp only
  obtain ⟨z1a,c1a,f1a,k1a⟩:=bfact hb1 k0
  clear q0
  go_wp2_with (go_at_call 123; refine (HI.out _).mono ?_; rintro e w' ⟨rfl,rfl⟩)
  go_ret
  refine ⟨ret_bool (by rw [G.out]; simp),?_⟩
  exact belBy
open Go.RowKit
theorem st_cells {w wr:World} {B:Nat} {A:Option Addr} {L:List St} (h:Cells w B A (ints (flatS L))) (hb:Below B w wr) {j:Nat} {o d a e g n:Int} (hj:L[j]? = some ⟨o,d,a,e,g,n⟩) :
  ∃ b off,A=some ⟨b,off,none⟩∧b < B∧wr.cell? ⟨b,off + j * 6,none⟩=some (.int .i64 o)∧wr.cell? ⟨b,off + j * 6 + 1,none⟩=some (.int .i64 d)∧wr.cell? ⟨b,off + j * 6 + 2,none⟩=some (.int .i64 a) ∧
   wr.cell? ⟨b,off + j * 6 + 3,none⟩=some (.int .i64 e)∧wr.cell? ⟨b,off + j * 6 + 4,none⟩=some (.int .i64 g)∧wr.cell? ⟨b,off + j * 6 + 5,none⟩=some (.int .i64 n):=by
 have hl:=(List.getElem?_eq_some_iff.1 hj).1
 obtain ⟨b,off,rfl,hB,hc⟩:=h (by rw [ints_length,flatS_length]; omega)
 have g:=fun (t:Nat) (x:Int) (hx:(sixS ⟨o,d,a,e,g,n⟩)[t]? = some x)=>(hb.cell (p:=⟨b,off + (j * 6 + t),none⟩) hB).trans (hc (j * 6 + t) _ (ints_get (flatS_at hj t x hx)))
 exact ⟨b,off,rfl,hB,g 0 _ rfl,g 1 _ rfl,g 2 _ rfl,g 3 _ rfl,g 4 _ rfl,g 5 _ rfl⟩
theorem drop_st {α:Type} {L:List α} {j:Nat} {s:α} (h:L[j]? = some s):L.drop j=s :: L.drop (j + 1):=by
 obtain ⟨hl,e⟩:=List.getElem?_eq_some_iff.1 h
 rw [List.drop_eq_getElem_cons hl,e]
theorem scan_at {k:Int} {L:List St} {j:Nat} {s:St} (h:L[j]? = some s):scanP k (L.drop j)=(stmtB s && (inB (dep s k) 0 3 && scanP (dep s k) (L.drop (j + 1)))):=by
 rw [drop_st h,scanP]
theorem prog_no {L:List St} (h:scanP 0 L=false):progB L=false:=by unfold progB; rw [h,Bool.and_false]
theorem dep_is (o d a e g n k:Int):(o=12∧dep ⟨o,d,a,e,g,n⟩ k=k + 1)∨(o≠12∧o=13∧dep ⟨o,d,a,e,g,n⟩ k=k - 1)∨(o≠12∧o≠13∧dep ⟨o,d,a,e,g,n⟩ k=k):=by
 unfold dep
 by_cases h:o=12
 ·exact .inl ⟨h,if_pos h⟩
 ·by_cases h2:o=13
  ·exact .inr (.inl ⟨h,h2,by rw [if_neg h,if_pos h2]⟩)
  ·exact .inr (.inr ⟨h,h2,by rw [if_neg h,if_neg h2]⟩)
set_option linter.unusedVariables false in
set_option maxRecDepth 100000 in
set_option maxHeartbeats 3200000 in
theorem iProgOk (A:Option Addr) (c:Nat) (L:List St) (w:World) (hc:Cells w w.heap.size A (ints (flatS L))) (hn:L.length≤1000000000) :
  Calls Tryz.prog 153 #[.slice A L.length c] w fun e w'=>e=.returned (.bool (progB L))∧Below w.heap.size w w':=by
 by_cases h40:40 < L.length
 ·have h40':(40:Int) < (L.length:Int):=by omega
  have HP:=hid (show progB L=false by unfold progB; rw [decide_eq_false (by omega)]; rfl)
  go_enter Tryz.func153,Tryz.ntmps153
  go_wp2
  go_ret
  exact ⟨by rw [HP.out]; rfl,Below.refl _ _⟩
 have h40':¬ (40:Int) < (L.length:Int):=by omega
 have HC:=hid hc
 clear hc
 go_enter Tryz.func153,Tryz.ntmps153
 go_wp2
 go_loopw [3,5,11] (fun dd _ i wr=>∃ (j:Nat) (k:Int),j≤L.length∧i=.int .i64 j∧dd=.int .i64 k∧(0≤k∧k≤3)∧scanP 0 L=scanP k (L.drop j)∧Below w.heap.size w wr) (fun _ _ i _=>L.length - (intOf i).toNat)
 case atStart=>exact ⟨0,0,Nat.zero_le _,rfl,rfl,by omega,rfl,Below.refl _ _⟩
 case round =>
  obtain ⟨j,k,hj,rfl,rfl,hk,hsc,hb⟩:=hrel
  have zb:=hb.size
  by_cases hlt:j < L.length
  ·obtain ⟨⟨o,d,a,e,g,n⟩,hx⟩:∃ s,L[j]? = some s:=⟨_,List.getElem?_eq_getElem hlt⟩
   obtain ⟨b,off,rfl,hB,d0,d1,d2,d3,d4,d5⟩:=st_cells HC.out hb hx
   have hs2:=scan_at (k:=k) hx
   have hlt':(j:Int) < (L.length:Int):=by omega
   have HS:=hid (fun w=>iStmtOk o d a e g n w)
   obtain ⟨v,hv⟩:∃ v,stmtB ⟨o,d,a,e,g,n⟩=v:=⟨_,rfl⟩
   rw [hv] at HS hs2
   have HSC:=hid (hsc.trans hs2)
   clear hx hsc hs2 hv
   have b_30:=hb
   have s_30:=b_30.size
   go_upto_region 7 with fail
   refine wp_forget1 (w0:=wr) (B:=wr.heap.size) (b0:=wr.heap.size) (t0:=73) (c0:=#[.int .i64 o,.int .i64 d,.int .i64 a,.int .i64 e,.int .i64 g,.int .i64 n]) ?_ ?_ ?_
   (focus exact blkcBy)
   (focus (exact belBy))
   intro w31 x_31 hX31
   have sX31:=hX31.size
   have x_lt:=x_31.lt
   have b_31:=b_30.trans (hX31.mono (by omega))
   clear b_30 hX31
   have cell_x:=x_31.cell
   have froz_x:=x_31.frozen
   have lt_x:=x_31.lt
   go_wp2_with fail
   refine calls_forget0 (W:=w31) ?_ ?_
   (focus (exact belBy))
   intro X32 hX32
   have sX32:=hX32.size
   refine (HS.out _).mono ?_
   rintro e w32 ⟨rfl,hb32⟩
   have s32:=hb32.size
   have hT32:=hX32.trans (hb32.mono sX32)
   have b_32:=b_31.trans (hT32.mono (by omega))
   have x_32:=Blk.past hT32 x_31
   clear x_31 b_31 cell_x froz_x lt_x hX32 hT32 hb32
   have cell_x:=x_32.cell
   have froz_x:=x_32.frozen
   have lt_x:=x_32.lt
   have HB:=hid b_32
   clear b_32 d0 d1 d2 d3 d4 d5 x_32
   cases v
   ·have HP:=hid (prog_no (HSC.out.trans (Bool.false_and _)))
    go_wp2
    go_ret
    exact ⟨by rw [HP.out]; rfl,HB.out⟩
   ·obtain ⟨q,hq⟩:∃ q,dep ⟨o,d,a,e,g,n⟩ k=q:=⟨_,rfl⟩
    have hdep:=dep_is o d a e g n k
    have HSQ:=HSC
    rw [Bool.true_and,hq] at HSQ
    rw [hq] at hdep
    have HIN:=hid (fun w=>iWithin q 0 3 w)
    obtain ⟨v,hv⟩:∃ v,inB q 0 3=v:=⟨_,rfl⟩
    rw [hv] at HIN HSQ
    have HV:=hid hv
    clear hv hq HSC
    have hw1:IntKind.i64.wrap (k + 1)=k + 1:=IntWalk.i64_in _ (by omega)
    have hw2:IntKind.i64.wrap (k - 1)=k - 1:=IntWalk.i64_in _ (by omega)
    rcases hdep with ⟨rfl,hq⟩ | ⟨h12,rfl,hq⟩ | ⟨h12,h13,hq⟩
    all_goals
     try have e1:(o == 12)=false:=by simpa using h12
     try have e2:(o == 13)=false:=by simpa using h13
     rw [hq] at HIN
     have HQ:=hid hq
     clear hq
     cases v
     ·have HP:=hid (prog_no (HSQ.out.trans (Bool.false_and _)))
      go_wp2_with (go_at_call 56; refine (HIN.out _).mono ?_; rintro e w' ⟨rfl,rfl⟩)
      go_ret
      exact ⟨by rw [HP.out]; rfl,HB.out⟩
     ·go_wp2_with (go_at_call 56; refine (HIN.out _).mono ?_; rintro e w' ⟨rfl,rfl⟩)
      go_roundw
      case rel=>exact ⟨j + 1,q,by omega,by go_num,by rw [HQ.out],inB_iff.1 HV.out,HSQ.out.trans (Bool.true_and _),HB.out⟩
      case measure=>simp [intOf]; omega
  ·obtain rfl:j=L.length:=by omega
   rw [List.drop_length] at hsc
   have HP:=hid (show progB L=(k == 0) by unfold progB; rw [hsc,decide_eq_true (by omega)]; rfl)
   have HB:=hid hb
   clear hsc hb
   cases h0:(k == 0)
   all_goals
    go_wp2
    go_ret
    exact ⟨by rw [HP.out,h0]; rfl,HB.out⟩
set_option linter.unusedVariables false in
set_option maxRecDepth 100000 in
set_option maxHeartbeats 3200000 in
theorem sProgOk (A:Option Addr) (c:Nat) (L:List St) (w:World) (hc:Cells w w.heap.size A (ints (flatS L))) (hn:L.length≤1000000000) :
  Calls Tryz.prog 149 #[.slice A L.length c] w fun e w'=>e=.returned (.bool (progB L))∧Below w.heap.size w w':=by
 have HC:=hid hc
 clear hc
 go_enter Tryz.func149,Tryz.ntmps149
 go_wp2
 go_loopw [3,4] (fun dd i wr=>∃ (j:Nat) (k:Int),j≤L.length∧i=.int .i64 j∧dd=.int .i64 k∧(0≤k∧k≤3)∧scanP 0 L=scanP k (L.drop j)∧Below w.heap.size w wr) (fun _ i _=>L.length - (intOf i).toNat)
 case atStart=>exact ⟨0,0,Nat.zero_le _,rfl,rfl,by omega,rfl,Below.refl _ _⟩
 case round =>
  obtain ⟨j,k,hj,rfl,rfl,hk,hsc,hb⟩:=hrel
  have zb:=hb.size
  by_cases hlt:j < L.length
  ·obtain ⟨⟨o,d,a,e,g,n⟩,hx⟩:∃ s,L[j]? = some s:=⟨_,List.getElem?_eq_getElem hlt⟩
   obtain ⟨b,off,rfl,hB,d0,d1,d2,d3,d4,d5⟩:=st_cells HC.out hb hx
   have hs2:=scan_at (k:=k) hx
   have hlt':(j:Int) < (L.length:Int):=by omega
   have hbz:b < wr.heap.size:=by omega
   have HS:=hid (fun w=>sStmtOk o d a e g n w)
   obtain ⟨v,hv⟩:∃ v,stmtB ⟨o,d,a,e,g,n⟩=v:=⟨_,rfl⟩
   rw [hv] at HS hs2
   have HSC:=hid (hsc.trans hs2)
   clear hx hsc hs2 hv
   have b_30:=hb
   have s_30:=b_30.size
   have q0_30:=d0
   clear d0
   have lt_q0:b < wr.heap.size:=by omega
   go_wp2_with fail
   refine calls_forget0 (W:=wr) ?_ ?_
   (focus (exact belBy))
   intro X31 hX31
   have sX31:=hX31.size
   refine (HS.out _).mono ?_
   rintro e w31 ⟨rfl,hb31⟩
   have s31:=hb31.size
   have hT31:=hX31.trans (hb31.mono sX31)
   have b_31:=b_30.trans (hT31.mono (by omega))
   have q0_31:=cell_kept q0_30 hT31 (by dsimp only; omega)
   clear q0_30 b_30 lt_q0 hX31 hT31 hb31
   have lt_q0:b < w31.heap.size:=(by omega)
   have HB:=hid b_31
   clear b_31 d1 d2 d3 d4 d5
   cases v
   ·have HP:=hid (prog_no (HSC.out.trans (Bool.false_and _)))
    go_wp2
    go_ret
    exact ⟨by rw [HP.out]; rfl,HB.out⟩
   ·obtain ⟨q,hq⟩:∃ q,dep ⟨o,d,a,e,g,n⟩ k=q:=⟨_,rfl⟩
    have hdep:=dep_is o d a e g n k
    have HSQ:=HSC
    rw [Bool.true_and,hq] at HSQ
    rw [hq] at hdep
    have HIN:=hid (fun w=>sWithin q 0 3 w)
    obtain ⟨v,hv⟩:∃ v,inB q 0 3=v:=⟨_,rfl⟩
    rw [hv] at HIN HSQ
    have HV:=hid hv
    clear hv hq HSC
    have hw1:IntKind.i64.wrap (k + 1)=k + 1:=IntWalk.i64_in _ (by omega)
    have hw2:IntKind.i64.wrap (k - 1)=k - 1:=IntWalk.i64_in _ (by omega)
    rcases hdep with ⟨rfl,hq⟩ | ⟨h12,rfl,hq⟩ | ⟨h12,h13,hq⟩
    all_goals
     try have e1:(o == 12)=false:=by simpa using h12
     try have e2:(o == 13)=false:=by simpa using h13
     rw [hq] at HIN
     have HQ:=hid hq
     clear hq
     cases v
     ·have HP:=hid (prog_no (HSQ.out.trans (Bool.false_and _)))
      go_wp2_with (go_at_call 123; refine (HIN.out _).mono ?_; rintro e w' ⟨rfl,rfl⟩)
      go_ret
      exact ⟨by rw [HP.out]; rfl,HB.out⟩
     ·go_wp2_with (go_at_call 123; refine (HIN.out _).mono ?_; rintro e w' ⟨rfl,rfl⟩)
      go_roundw
      case rel=>exact ⟨j + 1,q,by omega,by go_num,by rw [HQ.out],inB_iff.1 HV.out,HSQ.out.trans (Bool.true_and _),HB.out⟩
      case measure=>simp [intOf]; omega
  ·obtain rfl:j=L.length:=by omega
   rw [List.drop_length] at hsc
   have HP:=hid (show progB L=(k == 0 && decide (L.length≤40)) by unfold progB; rw [hsc,Bool.and_comm]; rfl)
   have HB:=hid hb
   clear hsc hb
   cases h0:(k == 0)
   ·go_wp2
    go_ret
    exact ⟨by rw [HP.out,h0]; rfl,HB.out⟩
   ·by_cases h40:L.length≤40
    ·have h40':(L.length:Int)≤40:=by omega
     go_wp2
     go_ret
     exact ⟨by rw [HP.out,h0,decide_eq_true h40]; rfl,HB.out⟩
    ·have h40':¬ (L.length:Int)≤40:=by omega
     go_wp2
     go_ret
     exact ⟨by rw [HP.out,h0,decide_eq_false h40]; rfl,HB.out⟩
theorem mt_at {k:Int} {L:List St} {j:Nat} {s:St} (h:L[j]? = some s):mt k (L.drop j)=if s.o=12 then 1 + mt (k + 1) (L.drop (j + 1)) else if s.o=13 then (if k - 1=0 then 0 else 1 + mt (k - 1) (L.drop (j + 1))) else 1 + mt k (L.drop (j + 1)):=by
 rw [drop_st h,mt]
set_option linter.unusedVariables false in
set_option maxRecDepth 100000 in
set_option maxHeartbeats 3200000 in
theorem iMatching (A:Option Addr) (c:Nat) (L:List St) (i:Nat) (w:World) (hc:Cells w w.heap.size A (ints (flatS L))) (hn:L.length≤1000000) (hi:i≤L.length) :
  Calls Tryz.prog 185 #[.slice A L.length c,.int .i64 i] w fun e w'=>e=.returned (.int .i64 ((i + mt 0 (L.drop i):Nat):Int))∧w=w':=by
 have HC:=hid hc
 clear hc
 go_enter Tryz.func185,Tryz.ntmps185
 go_wp2
 go_loop [5,6] (fun dd x=>∃ (j:Nat) (k:Int),j≤L.length∧x=.int .i64 j∧dd=.int .i64 k∧(-(j:Int)≤k∧k≤j)∧i + mt 0 (L.drop i)=j + mt k (L.drop j)) (fun _ x=>L.length - (intOf x).toNat)
 case atStart=>exact ⟨i,0,hi,rfl,rfl,by omega,rfl⟩
 case round =>
  obtain ⟨j,k,hj,rfl,rfl,hk,hm⟩:=hrel
  by_cases hlt:j < L.length
  ·obtain ⟨⟨o,d,a,e,g,n⟩,hx⟩:∃ s,L[j]? = some s:=⟨_,List.getElem?_eq_getElem hlt⟩
   obtain ⟨b,off,rfl,hB,d0,_,_,_,_,_⟩:=st_cells HC.out (Below.refl _ _) hx
   have hm2:=mt_at (k:=k) hx
   dsimp only at hm2
   have hlt':(j:Int) < (L.length:Int):=by omega
   have hw1:IntKind.i64.wrap (k + 1)=k + 1:=IntWalk.i64_in _ (by omega)
   have hw2:IntKind.i64.wrap (k - 1)=k - 1:=IntWalk.i64_in _ (by omega)
   clear hx
   by_cases h12:o=12
   ·subst h12
    rw [if_pos rfl] at hm2
    have HM:=hid (show i + mt 0 (L.drop i)=(j + 1) + mt (k + 1) (L.drop (j + 1)) by omega)
    clear hm hm2
    go_wp2
    go_round
    case rel=>exact ⟨j + 1,k + 1,by omega,by go_num,rfl,by omega,HM.out⟩
    case measure=>simp [intOf]; omega
   ·have e1:(o == 12)=false:=by simpa using h12
    rw [if_neg h12] at hm2
    by_cases h13:o=13
    ·subst h13
     rw [if_pos rfl] at hm2
     cases h1:(k - 1 == 0)
     ·rw [if_neg (by simpa using h1)] at hm2
      have HM:=hid (show i + mt 0 (L.drop i)=(j + 1) + mt (k - 1) (L.drop (j + 1)) by omega)
      clear hm hm2
      go_wp2
      go_round
      case rel=>exact ⟨j + 1,k - 1,by omega,by go_num,rfl,by omega,HM.out⟩
      case measure=>simp [intOf]; omega
     ·rw [if_pos (by simpa using h1)] at hm2
      have HM:=hid (show i + mt 0 (L.drop i)=j by omega)
      clear hm hm2
      go_wp2
      go_ret
      exact ⟨(congrArg (fun q:Nat=>Ending.returned (.int .i64 (q:Int))) HM.out).symm,rfl⟩
    ·have e2:(o == 13)=false:=by simpa using h13
     rw [if_neg h13] at hm2
     have HM:=hid (show i + mt 0 (L.drop i)=(j + 1) + mt k (L.drop (j + 1)) by omega)
     clear hm hm2
     go_wp2
     go_round
     case rel=>exact ⟨j + 1,k,by omega,by go_num,rfl,by omega,HM.out⟩
     case measure=>simp [intOf]; omega
  ·obtain rfl:j=L.length:=by omega
   rw [List.drop_length,mt] at hm
   have HM:=hid hm
   clear hm
   go_wp2
   go_ret
   exact ⟨(congrArg (fun q:Nat=>Ending.returned (.int .i64 (q:Int))) HM.out).symm,rfl⟩
end Go.Proofs.YtihbaieiempjeaaGreat
