/- Lemmas of the proof: Gates. -/
import Derived.Test.YtihbaieiempjeaaGreatB0
import Derived.Test.YtihbaieiempjeaaGreatB3
import Derived.Test.YtihbaieiempjeaaGreatB4
namespace Go.Proofs.YtihbaieiempjeaaGreat
open Go.RowKit
theorem gateB_1 (a b n:Int):gateB ⟨1,a,b⟩ n=(inB a 0 79 && b == 0):=rfl
theorem gateB_2 (a b n:Int):gateB ⟨2,a,b⟩ n=(inB a 0 1 && b == 0):=rfl
theorem gateB_3 (a b n:Int):gateB ⟨3,a,b⟩ n=(inB a 0 (n - 1) && inB b 0 (n - 1)):=rfl
theorem gateB_4 (a b n:Int):gateB ⟨4,a,b⟩ n=(inB a 0 (n - 1) && inB b 0 (n - 1)):=rfl
theorem gateB_5 (a b n:Int):gateB ⟨5,a,b⟩ n=(inB a 0 (n - 1) && b == 0):=rfl
theorem gateB_x {k:Int} (a b n:Int) (h1:k≠1) (h2:k≠2) (h3:k≠3) (h4:k≠4) (h5:k≠5):gateB ⟨k,a,b⟩ n=false:=by
 unfold gateB
 dsimp only
 rw [if_neg h1,if_neg h2,if_neg (by omega),if_neg h5]
theorem wire_ways (a:Int) (n:Nat):(0≤a∧a < n∧inB a 0 ((n:Int) - 1)=true)∨(0≤a∧¬ a < n∧inB a 0 ((n:Int) - 1)=false)∨(¬ 0≤a∧True∧inB a 0 ((n:Int) - 1)=false):=by
 by_cases h0:0≤a
 ·by_cases h1:a < n
  ·exact .inl ⟨h0,h1,inB_iff.2 (by omega)⟩
  ·exact .inr (.inl ⟨h0,h1,inB_no.2 (by omega)⟩)
 ·exact .inr (.inr ⟨h0,trivial,inB_no.2 (by omega)⟩)
set_option linter.unusedVariables false in
set_option maxRecDepth 100000 in
set_option maxHeartbeats 6400000 in
theorem iGateOk (k a b:Int) (n:Nat) (w:World) :
  Calls Tryz.prog 171 #[.agg #[.int .i64 k,.int .i64 a,.int .i64 b],.int .i64 (n:Int)] w fun e w'=>e=.returned (.bool (gateB ⟨k,a,b⟩ n))∧Below w.heap.size w w':=by
 by_cases h1:k=1
 ·subst h1
  rcases wire_ways a n with ⟨a0,a1,a2⟩ | ⟨a0,a1,a2⟩ | ⟨a0,a1,a2⟩
  all_goals
   rcases wire_ways b n with ⟨b0,b1,b2⟩ | ⟨b0,b1,b2⟩ | ⟨b0,b1,b2⟩
   all_goals
    have HA:=hid a2
    have HB:=hid b2
    clear a2 b2
    cases h1:inB a 0 79; rotate_left
    cases h2:(b == 0)
    all_goals
     go_enter Tryz.func171,Tryz.ntmps171
     go_wp2_with (go_at_call 56; refine (iWithin _ _ _ _).mono ?_; rintro e w' ⟨rfl,rfl⟩)
     go_ret
     refine ⟨ret_bool (by rw [gateB_1]; simp [*]),?_⟩
     exact belBy
 by_cases h2:k=2
 ·subst h2
  rcases wire_ways a n with ⟨a0,a1,a2⟩ | ⟨a0,a1,a2⟩ | ⟨a0,a1,a2⟩
  all_goals
   rcases wire_ways b n with ⟨b0,b1,b2⟩ | ⟨b0,b1,b2⟩ | ⟨b0,b1,b2⟩
   all_goals
    have HA:=hid a2
    have HB:=hid b2
    clear a2 b2
    cases h1:inB a 0 1; rotate_left
    cases h2:(b == 0)
    all_goals
     go_enter Tryz.func171,Tryz.ntmps171
     go_wp2_with (go_at_call 56; refine (iWithin _ _ _ _).mono ?_; rintro e w' ⟨rfl,rfl⟩)
     go_ret
     refine ⟨ret_bool (by rw [gateB_2]; simp [*]),?_⟩
     exact belBy
 by_cases h3:k=3
 ·subst h3
  rcases wire_ways a n with ⟨a0,a1,a2⟩ | ⟨a0,a1,a2⟩ | ⟨a0,a1,a2⟩
  all_goals
   rcases wire_ways b n with ⟨b0,b1,b2⟩ | ⟨b0,b1,b2⟩ | ⟨b0,b1,b2⟩
   all_goals
    have HA:=hid a2
    have HB:=hid b2
    clear a2 b2
    go_enter Tryz.func171,Tryz.ntmps171
    go_wp2
    go_ret
    refine ⟨ret_bool (by rw [gateB_3,HA.out,HB.out]; rfl),?_⟩
    exact belBy
 by_cases h4:k=4
 ·subst h4
  rcases wire_ways a n with ⟨a0,a1,a2⟩ | ⟨a0,a1,a2⟩ | ⟨a0,a1,a2⟩
  all_goals
   rcases wire_ways b n with ⟨b0,b1,b2⟩ | ⟨b0,b1,b2⟩ | ⟨b0,b1,b2⟩
   all_goals
    have HA:=hid a2
    have HB:=hid b2
    clear a2 b2
    go_enter Tryz.func171,Tryz.ntmps171
    go_wp2
    go_ret
    refine ⟨ret_bool (by rw [gateB_4,HA.out,HB.out]; rfl),?_⟩
    exact belBy
 by_cases h5:k=5
 ·subst h5
  rcases wire_ways a n with ⟨a0,a1,a2⟩ | ⟨a0,a1,a2⟩ | ⟨a0,a1,a2⟩
  all_goals
   rcases wire_ways b n with ⟨b0,b1,b2⟩ | ⟨b0,b1,b2⟩ | ⟨b0,b1,b2⟩
   all_goals
    have HA:=hid a2
    clear a2 b2
    cases h2:(b == 0)
    all_goals
     have HB:=hid h2
     go_enter Tryz.func171,Tryz.ntmps171
     go_wp2
     go_ret
     refine ⟨ret_bool (by rw [gateB_5,HA.out,HB.out]; rfl),?_⟩
     exact belBy
 have HX:=hid (gateB_x a b n h1 h2 h3 h4 h5)
 have e1:(k == 1)=false:=by simpa using h1
 have e2:(k == 2)=false:=by simpa using h2
 have e3:(k == 3)=false:=by simpa using h3
 have e4:(k == 4)=false:=by simpa using h4
 have e5:(k == 5)=false:=by simpa using h5
 clear h1 h2 h3 h4 h5
 rcases wire_ways a n with ⟨a0,a1,a2⟩ | ⟨a0,a1,a2⟩ | ⟨a0,a1,a2⟩
 all_goals
  rcases wire_ways b n with ⟨b0,b1,b2⟩ | ⟨b0,b1,b2⟩ | ⟨b0,b1,b2⟩
  all_goals
   clear a2 b2
   go_enter Tryz.func171,Tryz.ntmps171
   go_wp2
   go_ret
   refine ⟨ret_bool (by rw [HX.out]),?_⟩
   exact belBy
set_option linter.unusedVariables false in
set_option maxRecDepth 100000 in
set_option maxHeartbeats 6400000 in
theorem sGateOk (k a b:Int) (n:Nat) (w:World) :
  Calls Tryz.prog 122 #[.agg #[.int .i64 k,.int .i64 a,.int .i64 b],.int .i64 (n:Int)] w fun e w'=>e=.returned (.bool (gateB ⟨k,a,b⟩ n))∧Below w.heap.size w w':=by
 by_cases h1:k=1
 ·subst h1
  rcases wire_ways a n with ⟨a0,a1,a2⟩ | ⟨a0,a1,a2⟩ | ⟨a0,a1,a2⟩
  all_goals
   rcases wire_ways b n with ⟨b0,b1,b2⟩ | ⟨b0,b1,b2⟩ | ⟨b0,b1,b2⟩
   all_goals
    have HA:=hid a2
    have HB:=hid b2
    clear a2 b2
    cases h1:inB a 0 79; rotate_left
    cases h2:(b == 0)
    all_goals
     go_enter Tryz.func122,Tryz.ntmps122
     go_wp2_with (go_at_call 123; refine (sWithin _ _ _ _).mono ?_; rintro e w' ⟨rfl,rfl⟩)
     go_ret
     refine ⟨ret_bool (by rw [gateB_1]; simp [*]),?_⟩
     exact belBy
 by_cases h2:k=2
 ·subst h2
  rcases wire_ways a n with ⟨a0,a1,a2⟩ | ⟨a0,a1,a2⟩ | ⟨a0,a1,a2⟩
  all_goals
   rcases wire_ways b n with ⟨b0,b1,b2⟩ | ⟨b0,b1,b2⟩ | ⟨b0,b1,b2⟩
   all_goals
    have HA:=hid a2
    have HB:=hid b2
    clear a2 b2
    cases h1:inB a 0 1; rotate_left
    cases h2:(b == 0)
    all_goals
     go_enter Tryz.func122,Tryz.ntmps122
     go_wp2_with (go_at_call 123; refine (sWithin _ _ _ _).mono ?_; rintro e w' ⟨rfl,rfl⟩)
     go_ret
     refine ⟨ret_bool (by rw [gateB_2]; simp [*]),?_⟩
     exact belBy
 by_cases h3:k=3
 ·subst h3
  rcases wire_ways a n with ⟨a0,a1,a2⟩ | ⟨a0,a1,a2⟩ | ⟨a0,a1,a2⟩
  all_goals
   rcases wire_ways b n with ⟨b0,b1,b2⟩ | ⟨b0,b1,b2⟩ | ⟨b0,b1,b2⟩
   all_goals
    have HA:=hid a2
    have HB:=hid b2
    clear a2 b2
    go_enter Tryz.func122,Tryz.ntmps122
    go_wp2
    go_ret
    refine ⟨ret_bool (by rw [gateB_3,HA.out,HB.out]; rfl),?_⟩
    exact belBy
 by_cases h4:k=4
 ·subst h4
  rcases wire_ways a n with ⟨a0,a1,a2⟩ | ⟨a0,a1,a2⟩ | ⟨a0,a1,a2⟩
  all_goals
   rcases wire_ways b n with ⟨b0,b1,b2⟩ | ⟨b0,b1,b2⟩ | ⟨b0,b1,b2⟩
   all_goals
    have HA:=hid a2
    have HB:=hid b2
    clear a2 b2
    go_enter Tryz.func122,Tryz.ntmps122
    go_wp2
    go_ret
    refine ⟨ret_bool (by rw [gateB_4,HA.out,HB.out]; rfl),?_⟩
    exact belBy
 by_cases h5:k=5
 ·subst h5
  rcases wire_ways a n with ⟨a0,a1,a2⟩ | ⟨a0,a1,a2⟩ | ⟨a0,a1,a2⟩
  all_goals
   rcases wire_ways b n with ⟨b0,b1,b2⟩ | ⟨b0,b1,b2⟩ | ⟨b0,b1,b2⟩
   all_goals
    have HA:=hid a2
    clear a2 b2
    cases h2:(b == 0)
    all_goals
     have HB:=hid h2
     go_enter Tryz.func122,Tryz.ntmps122
     go_wp2
     go_ret
     refine ⟨ret_bool (by rw [gateB_5,HA.out,HB.out]; rfl),?_⟩
     exact belBy
 have HX:=hid (gateB_x a b n h1 h2 h3 h4 h5)
 have e1:(k == 1)=false:=by simpa using h1
 have e2:(k == 2)=false:=by simpa using h2
 have e3:(k == 3)=false:=by simpa using h3
 have e4:(k == 4)=false:=by simpa using h4
 have e5:(k == 5)=false:=by simpa using h5
 clear h1 h2 h3 h4 h5
 rcases wire_ways a n with ⟨a0,a1,a2⟩ | ⟨a0,a1,a2⟩ | ⟨a0,a1,a2⟩
 all_goals
  rcases wire_ways b n with ⟨b0,b1,b2⟩ | ⟨b0,b1,b2⟩ | ⟨b0,b1,b2⟩
  all_goals
   clear a2 b2
   go_enter Tryz.func122,Tryz.ntmps122
   go_wp2
   go_ret
   refine ⟨ret_bool (by rw [HX.out]),?_⟩
   exact belBy
end Go.Proofs.YtihbaieiempjeaaGreat
