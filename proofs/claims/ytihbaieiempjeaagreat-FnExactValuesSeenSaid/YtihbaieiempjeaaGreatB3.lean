/- Lemmas of the proof: Rw, StmtI. -/
import Derived.Test.YtihbaieiempjeaaGreatB0
import Derived.Test.YtihbaieiempjeaaGreatB2
import Derived.Deep.DeepCutAuto
import Derived.Test.YtihbaieiempjeaaGreatB1
namespace Go.Proofs.YtihbaieiempjeaaGreat
open Go.RowKit
def Row (w:World) (g e size n c:Nat) (xs:List Value):Prop:=w.ownsRow 0 e size (.slice (some ⟨g,0,none⟩) n c) n xs
section
variable {w w':World} {g e size n c:Nat} {xs:List Value}
theorem Row.parts (h:Row w g e size n c xs):xs.length=n * size∧∃ cur,w.heap[g]? = some (.cells cur e (0,0))∧n≤c∧c≤maxLen∧cur.size=c * size∧cur.toList.take (n * size)=xs:=by
 refine ⟨h.1,?_⟩
 rcases h.2 with ⟨hv,_⟩ | ⟨g',cap,cur,hv,_,h1,h2,h3,h4,h5⟩
 ·cases hv
 ·injection hv with e1 _ e3
  injection e1 with e1
  injection e1 with e1
  subst e1 e3
  exact ⟨cur,h1,h2,h3,h4,h5⟩
theorem Row.lt (h:Row w g e size n c xs):g < w.heap.size:=(World.ownsRow.lt h g rfl).2
theorem Row.cap (h:Row w g e size n c xs):n≤c:=by
 obtain ⟨_,_,_,h,_⟩:=h.parts
 exact h
theorem Row.len (h:Row w g e size n c xs):xs.length=n * size:=h.1
theorem Row.below (h:Row w g e size n c xs) (hb:Below w.heap.size w w'):Row w' g e size n c xs:=own_below h hb
theorem Row.grown {q:Nat} (h:Row w g e size n c xs) (hg:w.grownBy w' (some q)) (hne:g≠q):Row w' g e size n c xs :=
 gr_own hg h fun a b ha hb=>by
  injection ha with ha
  have:some g=some b:=hb
  injection this with this
  omega
theorem Row.alloc (h:Row w g e size n c xs) (o:Obj):Row (w.alloc o) g e size n c xs:=World.ownsRow.alloc h o
theorem Row.cells (h:Row w g e size n c xs):Cells w w.heap.size (some ⟨g,0,none⟩) xs:=Cells.of_own h
theorem Row.cell (h:Row w g e size n c xs) {k:Nat} {v:Value} (hk:xs[k]? = some v):w.cell? ⟨g,k,none⟩=some v:=by
 obtain ⟨b,off,e,_,hc⟩:=h.cells (by have:=(List.getElem?_eq_some_iff.1 hk).1; omega)
 injection e with e
 injection e with e1 e2
 subst e1 e2
 have:=hc k v hk
 rwa [Nat.zero_add] at this
theorem Row.new (cs:Array Value) (hn:n≤maxLen) (hs:cs.size=n * size) (hg:g=w.heap.size):Row (w.alloc (.cells cs e)) g e size n n cs.toList:=by
 subst hg
 exact own_lit cs n rfl (Nat.zero_le _) hn hs
theorem Row.own {base:Nat} (h:Row w g e size n c xs) (hb:base≤g):w.ownsRow base e size (.slice (some ⟨g,0,none⟩) n c) n xs:=by
 obtain ⟨h0,cur,h1,h2,h3,h4,h5⟩:=h.parts
 exact ⟨h0,.inr ⟨g,c,cur,rfl,hb,h1,h2,h3,h4,h5⟩⟩
end
theorem wpList_apps {P:Program} {w:World} {ops:Array Oper} {rest:List Oper} {o:Oper} {a:Act} {Q:Exit→Act→World→Prop} (hgd:o.guard=none) (s x:Operand) (t:TypeId)
  (ho:o.op=.call { callee:=.builtin .append,args:=#[s,x],argTypes:=#[t,t] })
  (e:Nat) (z:Value) (size bytes:Nat) (ht:P.underlying t=some (.slice e)) (hinfo:(P.info? e).map (fun i=>(i.zero,i.size,i.bytes))=some (some z,size,bytes)) (hzs:z.cells.size=size) (hsz:0 < size)
  {g n c:Nat} {xs:List Value} (hs:a.eval s=.slice (some ⟨g,0,none⟩) n c) (hown:Row w g e size n c xs)
  (ad:Addr) (m k:Nat) (news:List Value) (hx:a.eval x=.slice (some ad) m k) (hl:news.length=m * size) (hnews:∀ j u,news[j]? = some u→w.cell? (ad.add j)=some u) (h1:∀ u∈news,u.oneCell'=true)
  (hbound:n + m≤1000000000) (hbytes:bytes≤1000)
  (h:∀ g' c' w',Row w' g' e size (n + m) c' (xs ++ news)→w.grownBy w' (some g)→(g'=g∨g'=w.heap.size)→wpList P ops Q rest (a.put o.dst (.slice (some ⟨g',0,none⟩) (n + m) c')) w'):wpList P ops Q (o :: rest) a w:=by
 obtain ⟨i,hi,hz0,hz1,hz2⟩:=info_parts hinfo
 have hmul:(n + m) * bytes≤1000000000 * 1000:=Nat.mul_le_mul hbound hbytes
 refine wpList_append_own_at w hgd s x t ho 0 e i z size bytes ht hi hz0 hz1 hz2 hzs hsz _ n xs hs hown ad m k news hx hl hnews h1 (by unfold maxLen; omega) (by omega) (Nat.zero_le _) ?_
 intro v' w' hown' hg' hnil hbl
 rcases hown'.2 with ⟨hv,_⟩ | ⟨g',cap,cur,hv,_⟩
 ·exact absurd (hnil.1 hv).1 (by simp)
 ·subst hv
  refine h g' cap w' hown' hg' ?_
  rcases hbl with hb | hb
  ·have hb:some g'=some g:=hb
   injection hb with hb
   exact .inl hb
  ·have hb:some g'=some w.heap.size:=hb
   injection hb with hb
   exact .inr hb
theorem below_apps {B:Nat} {w0 w w':World} {g:Nat} (h:Below B w0 w) (hg:w.grownBy w' (some g)) (h1:B≤w.heap.size) (h2:B≤g):Below B w0 w' :=
 gr_below hg h h1 fun q hq=>by injection hq with hq; omega
theorem cells_add {w:World} {b off:Nat} {xs:List Value} (hc:∀ i v,xs[i]? = some v→w.cell? ⟨b,off + i,none⟩=some v):∀ j u,xs[j]? = some u→w.cell? ((⟨b,off,none⟩:Addr).add j)=some u:=fun j u hu=>by
 have e:(⟨b,off,none⟩:Addr).add j=⟨b,off + j,none⟩:=by simp [Addr.add]
 rw [e]
 exact hc j u hu
theorem ints_app (xs ys:List Int):ints (xs ++ ys)=ints xs ++ ints ys:=List.map_append
theorem infoSt:(Tryz.prog.info? 73).map (fun i=>(i.zero,i.size,i.bytes))=some (some (.agg #[.int .i64 0,.int .i64 0,.int .i64 0,.int .i64 0,.int .i64 0,.int .i64 0]),6,48):=by kernel_rfl
theorem infoGt:(Tryz.prog.info? 96).map (fun i=>(i.zero,i.size,i.bytes))=some (some (.agg #[.int .i64 0,.int .i64 0,.int .i64 0]),3,24):=by kernel_rfl
theorem infoI:(Tryz.prog.info? 3).map (fun i=>(i.zero,i.size,i.bytes))=some (some (.int .i64 0),1,8):=by kernel_rfl
abbrev RowS (w:World) (g n c:Nat) (L:List St):Prop:=Row w g 73 6 n c (ints (flatS L))
abbrev RowI (w:World) (g n c:Nat) (L:List Int):Prop:=Row w g 3 1 n c (ints L)
section
variable {w:World} {ops:Array Oper} {rest:List Oper} {o:Oper} {a:Act} {Q:Exit→Act→World→Prop}
theorem app_st (hgd:o.guard=none) (s x:Operand) (ho:o.op=.call { callee:=.builtin .append,args:=#[s,x],argTypes:=#[24,24] })
  {g n c:Nat} {L:List St} (hs:a.eval s=.slice (some ⟨g,0,none⟩) n c) (hown:RowS w g n c L) {b off m k:Nat} (M:List St) (hx:a.eval x=.slice (some ⟨b,off,none⟩) m k) (hl:M.length=m)
  (hc:∀ j u,(ints (flatS M))[j]? = some u→w.cell? ⟨b,off + j,none⟩=some u) (hb:n + m≤1000000)
  (h:∀ g' c' w',RowS w' g' (n + m) c' (L ++ M)→w.grownBy w' (some g)→(g'=g∨g'=w.heap.size)→wpList Tryz.prog ops Q rest (a.put o.dst (.slice (some ⟨g',0,none⟩) (n + m) c')) w'):wpList Tryz.prog ops Q (o :: rest) a w :=
 wpList_apps hgd s x _ ho _ _ 6 48 Tryz.underlying24 infoSt rfl (by decide) hs hown ⟨b,off,none⟩ m k (ints (flatS M)) hx (by rw [ints_length,flatS_length,hl]) (cells_add hc) (ints_one _) (by omega) (by decide)
  fun g' c' w' h1 h2 h3=>h g' c' w' (by show Row _ _ _ _ _ _ _; rw [flatS_append,ints_app]; exact h1) h2 h3
theorem app_int (hgd:o.guard=none) (s x:Operand) (ho:o.op=.call { callee:=.builtin .append,args:=#[s,x],argTypes:=#[30,30] })
  {g n c:Nat} {L:List Int} (hs:a.eval s=.slice (some ⟨g,0,none⟩) n c) (hown:RowI w g n c L) {b off m k:Nat} (M:List Int) (hx:a.eval x=.slice (some ⟨b,off,none⟩) m k) (hl:M.length=m)
  (hc:∀ j u,(ints M)[j]? = some u→w.cell? ⟨b,off + j,none⟩=some u) (hb:n + m≤1000000)
  (h:∀ g' c' w',RowI w' g' (n + m) c' (L ++ M)→w.grownBy w' (some g)→(g'=g∨g'=w.heap.size)→wpList Tryz.prog ops Q rest (a.put o.dst (.slice (some ⟨g',0,none⟩) (n + m) c')) w'):wpList Tryz.prog ops Q (o :: rest) a w :=
 wpList_apps hgd s x _ ho _ _ 1 8 Tryz.underlying30 infoI rfl (by decide) hs hown ⟨b,off,none⟩ m k (ints M) hx (by rw [ints_length,hl,Nat.mul_one]) (cells_add hc) (ints_one _) (by omega) (by decide)
  fun g' c' w' h1 h2 h3=>h g' c' w' (by show Row _ _ _ _ _ _ _; rw [ints_app]; exact h1) h2 h3
end
theorem top_cells (w:World) (cs:List Value) (t:TypeId):∀ (j:Nat) (u:Value),cs[j]? = some u→(w.alloc (.cells cs.toArray t)).cell? ⟨w.heap.size,0 + j,none⟩=some u:=fun j u hu=>by
 have hb:Blk (w.alloc (.cells cs.toArray t)) w.heap.size t cs.toArray:=Blk.new rfl
 rw [Nat.zero_add,hb.cell j]
 simpa using hu
theorem row_cells {w:World} {g e size n c:Nat} {xs:List Value} (h:Row w g e size n c xs):∀ (j:Nat) (u:Value),xs[j]? = some u→w.cell? ⟨g,0 + j,none⟩=some u:=fun j u hu=>by
 rw [Nat.zero_add]
 exact h.cell hu
open Go.RowKit
theorem stmtB_1 (d a b c n:Int):stmtB ⟨1,d,a,b,c,n⟩=(regB d && (a == 0 && (b == 0 && (c == 0 && inB n 0 15)))):=rfl
theorem stmtB_2 (d a b c n:Int):stmtB ⟨2,d,a,b,c,n⟩=(regB d && (inB a 0 4 && (b == 0 && (c == 0 && inB n 0 3)))):=rfl
theorem stmtB_3 {o:Int} (d a b c n:Int) (h:inB o 3 9=true):stmtB ⟨o,d,a,b,c,n⟩=(regB d && (regB a && (regB b && (c == 0 && n == 0)))):=by
 have h1:=inB_iff.1 h
 unfold stmtB
 dsimp only
 rw [if_neg (by omega),if_neg (by omega),if_pos h]
theorem stmtB_10 (d a b c n:Int):stmtB ⟨10,d,a,b,c,n⟩=(regB d && (regB a && (regB b && (regB c && n == 0)))):=rfl
theorem stmtB_11 (d a b c n:Int):stmtB ⟨11,d,a,b,c,n⟩=(d == 0 && (regB a && (b == 0 && (c == 0 && n == 0)))):=rfl
theorem stmtB_12 (d a b c n:Int):stmtB ⟨12,d,a,b,c,n⟩=(d == 0 && (a == 0 && (b == 0 && (c == 0 && inB n 1 8)))):=rfl
theorem stmtB_13 {o:Int} (d a b c n:Int) (h1:o≠1) (h2:o≠2) (h3:inB o 3 9=false) (h10:o≠10) (h11:o≠11) (h12:o≠12) :
  stmtB ⟨o,d,a,b,c,n⟩=(o == 13 && (d == 0 && (a == 0 && (b == 0 && (c == 0 && n == 0))))):=by
 unfold stmtB
 dsimp only
 rw [if_neg h1,if_neg h2,if_neg (by rw [h3]; simp),if_neg h10,if_neg h11,if_neg h12]
theorem all_no {p:Int→Bool} {xs:List Int} {k:Nat} {x:Int} (h:xs[k]? = some x) (hx:p x=false):xs.all p=false:=by
 rw [List.all_eq_false]
 exact ⟨x,List.mem_of_getElem? h,by simp [hx]⟩
theorem all_snoc {p:Int→Bool} {xs:List Int} {k:Nat} {x:Int} (h:xs[k]? = some x) (ha:(xs.take k).all p=true) (hx:p x=true):(xs.take (k + 1)).all p=true:=by
 rw [take_snoc h,List.all_append,ha]
 simp [hx]
set_option linter.unusedVariables false in
theorem iIsReg (A:Option Addr) (c:Nat) (xs:List Int) (w:World) (hc:Cells w w.heap.size A (ints xs)) (hn:xs.length≤1000000000) :
  Calls Tryz.prog 193 #[.slice A xs.length c] w fun e w'=>e=.returned (.bool (xs.all regB))∧w=w':=by
 go_enter Tryz.func193,Tryz.ntmps193
 go_wp2
 go_loop [4,7] (fun _ i=>∃ j:Nat,j≤xs.length∧i=.int .i64 j∧(xs.take j).all regB=true) (fun _ i=>xs.length - (intOf i).toNat)
 case atStart=>exact ⟨0,Nat.zero_le _,rfl,rfl⟩
 case round =>
  obtain ⟨j,hj,rfl,hall⟩:=hrel
  by_cases hlt:j < xs.length
  ·obtain ⟨x,hx1⟩:∃ x,xs[j]? = some x:=⟨_,List.getElem?_eq_getElem hlt⟩
   obtain ⟨b,off,rfl,hB,hcl⟩:=hc (by rw [ints_length]; omega)
   have hcell:w.cell? ⟨b,off + j,none⟩=some (.int .i64 x):=hcl j _ (ints_get hx1)
   have HW:=hid (fun w=>iWithin x 0 7 w)
   cases hr:regB x
   ·have HN:=hid (all_no hx1 hr)
    have hin:inB x 0 7=false:=hr
    rw [hin] at HW
    clear hcl hc hx1 hall hr hin
    go_wp2_with (go_at_call 56; refine (HW.out _).mono ?_; rintro e w' ⟨rfl,rfl⟩)
    go_ret
    exact ⟨by rw [HN.out]; rfl,rfl⟩
   ·have HA:=hid (all_snoc hx1 hall hr)
    have hin:inB x 0 7=true:=hr
    rw [hin] at HW
    clear hcl hc hx1 hall hr hin
    go_wp2_with (go_at_call 56; refine (HW.out _).mono ?_; rintro e w' ⟨rfl,rfl⟩)
    go_round
    case rel=>exact ⟨j + 1,by omega,by go_num,HA.out⟩
    case measure=>simp [intOf]; omega
  ·obtain rfl:j=xs.length:=by omega
   rw [List.take_length] at hall
   have HA:=hid hall
   clear hall
   go_wp2
   go_ret
   exact ⟨by rw [HA.out]; rfl,rfl⟩
theorem cells_blk {w:World} {b t:Nat} {xs:List Int} (h:Blk w b t (ints xs).toArray):Cells w w.heap.size (some ⟨b,0,none⟩) (ints xs):=fun _ =>
 ⟨b,0,rfl,h.lt,fun i v hv=>by
  rw [Nat.zero_add,h.cell i]
  simpa using hv⟩
theorem iReg1 (a:Int) (c b:Nat) (w:World) (h:Blk w b 3 #[.int .i64 a]) :
  Calls Tryz.prog 193 #[.slice (some ⟨b,0,none⟩) 1 c] w fun e w'=>e=.returned (.bool (regB a))∧w=w':=by
 have h:=iIsReg (some ⟨b,0,none⟩) c [a] w (cells_blk h) (by simp)
 simpa using h
theorem iReg3 (x y z:Int) (c b:Nat) (w:World) (h:Blk w b 3 #[.int .i64 x,.int .i64 y,.int .i64 z]) :
  Calls Tryz.prog 193 #[.slice (some ⟨b,0,none⟩) 3 c] w fun e w'=>e=.returned (.bool (regB x && (regB y && regB z)))∧w=w':=by
 have h:=iIsReg (some ⟨b,0,none⟩) c [x,y,z] w (cells_blk h) (by simp)
 simpa using h
theorem iReg4 (x y z u:Int) (c b:Nat) (w:World) (h:Blk w b 3 #[.int .i64 x,.int .i64 y,.int .i64 z,.int .i64 u]) :
  Calls Tryz.prog 193 #[.slice (some ⟨b,0,none⟩) 4 c] w fun e w'=>e=.returned (.bool (regB x && (regB y && (regB z && regB u))))∧w=w':=by
 have h:=iIsReg (some ⟨b,0,none⟩) c [x,y,z,u] w (cells_blk h) (by simp)
 simpa using h
theorem iIsBinary (o:Int) (w:World):Calls Tryz.prog 194 #[.int .i64 o] w fun e w'=>e=.returned (.bool (inB o 3 9))∧w=w':=by
 go_enter Tryz.func194,Tryz.ntmps194
 go_wp2_with (go_at_call 56; refine (iWithin _ _ _ _).mono ?_; rintro e w' ⟨rfl,rfl⟩)
 go_ret
 exact ⟨rfl,rfl⟩
set_option maxRecDepth 100000 in
set_option maxHeartbeats 3200000 in
theorem iStmtOk (o d a b c n:Int) (w:World) :
  Calls Tryz.prog 184 #[.agg #[.int .i64 o,.int .i64 d,.int .i64 a,.int .i64 b,.int .i64 c,.int .i64 n]] w fun e w'=>e=.returned (.bool (stmtB ⟨o,d,a,b,c,n⟩))∧Below w.heap.size w w':=by
 by_cases h1:o=1
 ·subst h1
  cases h1:(a == 0); rotate_left
  cases h2:(b == 0); rotate_left
  cases h3:(c == 0); rotate_left
  cases h4:regB d
  all_goals
   go_enter Tryz.func184,Tryz.ntmps184
   go_wp2_with (first | (go_at_call 193; refine (iReg1 d _ _ _ (by exact blkcBy)).mono ?_; rintro e w' ⟨rfl,rfl⟩) | (go_at_call 56; refine (iWithin _ _ _ _).mono ?_; rintro e w' ⟨rfl,rfl⟩))
   go_ret
   refine ⟨ret_bool (by rw [stmtB_1]; simp [*]),?_⟩
   exact belBy
 by_cases h2:o=2
 ·subst h2
  cases h1:(b == 0); rotate_left
  cases h2:(c == 0); rotate_left
  cases h3:regB d; rotate_left
  cases h4:inB a 0 4
  all_goals
   go_enter Tryz.func184,Tryz.ntmps184
   go_wp2_with (first | (go_at_call 193; refine (iReg1 d _ _ _ (by exact blkcBy)).mono ?_; rintro e w' ⟨rfl,rfl⟩) | (go_at_call 56; refine (iWithin _ _ _ _).mono ?_; rintro e w' ⟨rfl,rfl⟩))
   go_ret
   refine ⟨ret_bool (by rw [stmtB_2]; simp [*]),?_⟩
   exact belBy
 cases h3:inB o 3 9; rotate_left
 ·have HS:=hid (stmtB_3 d a b c n h3)
  have e1:(o == 1)=false:=by simpa using h1
  have e2:(o == 2)=false:=by simpa using h2
  have HB:=hid (fun w=>iIsBinary o w)
  rw [h3] at HB
  clear h1 h2 h3
  cases h1:(c == 0); rotate_left
  cases h2:(n == 0)
  all_goals
   go_enter Tryz.func184,Tryz.ntmps184
   go_wp2_with (first | (go_at_call 193; refine (iReg3 d a b _ _ _ (by exact blkcBy)).mono ?_; rintro e w' ⟨rfl,rfl⟩) | (go_at_call 194; refine (HB.out _).mono ?_; rintro e w' ⟨rfl,rfl⟩))
   go_ret
   refine ⟨ret_bool (by rw [HS.out]; simp [*]),?_⟩
   exact belBy
 have HB:=hid (fun w=>iIsBinary o w)
 rw [h3] at HB
 by_cases h10:o=10
 ·subst h10
  cases h1:(n == 0)
  all_goals
   go_enter Tryz.func184,Tryz.ntmps184
   go_wp2_with (first | (go_at_call 193; refine (iReg4 d a b c _ _ _ (by exact blkcBy)).mono ?_; rintro e w' ⟨rfl,rfl⟩) | (go_at_call 194; refine (HB.out _).mono ?_; rintro e w' ⟨rfl,rfl⟩))
   go_ret
   refine ⟨ret_bool (by rw [stmtB_10]; simp [*]),?_⟩
   exact belBy
 by_cases h11:o=11
 ·subst h11
  cases h1:(d == 0); rotate_left
  cases h2:(b == 0); rotate_left
  cases h3:(c == 0); rotate_left
  cases h4:(n == 0)
  all_goals
   go_enter Tryz.func184,Tryz.ntmps184
   go_wp2_with (first | (go_at_call 193; refine (iReg1 a _ _ _ (by exact blkcBy)).mono ?_; rintro e w' ⟨rfl,rfl⟩) | (go_at_call 194; refine (HB.out _).mono ?_; rintro e w' ⟨rfl,rfl⟩))
   go_ret
   refine ⟨ret_bool (by rw [stmtB_11]; simp [*]),?_⟩
   exact belBy
 by_cases h12:o=12
 ·subst h12
  cases h1:(d == 0); rotate_left
  cases h2:(a == 0); rotate_left
  cases h3:(b == 0); rotate_left
  cases h4:(c == 0)
  all_goals
   go_enter Tryz.func184,Tryz.ntmps184
   go_wp2_with (first | (go_at_call 194; refine (HB.out _).mono ?_; rintro e w' ⟨rfl,rfl⟩) | (go_at_call 56; refine (iWithin _ _ _ _).mono ?_; rintro e w' ⟨rfl,rfl⟩))
   go_ret
   refine ⟨ret_bool (by rw [stmtB_12]; simp [*]),?_⟩
   exact belBy
 have HS:=hid (stmtB_13 d a b c n h1 h2 h3 h10 h11 h12)
 have e1:(o == 1)=false:=by simpa using h1
 have e2:(o == 2)=false:=by simpa using h2
 have e3:(o == 10)=false:=by simpa using h10
 have e4:(o == 11)=false:=by simpa using h11
 have e5:(o == 12)=false:=by simpa using h12
 clear h1 h2 h3 h10 h11 h12
 cases h1:(o == 13); rotate_left
 cases h2:(d == 0); rotate_left
 cases h3:(a == 0); rotate_left
 cases h4:(b == 0); rotate_left
 cases h5:(c == 0); rotate_left
 cases h6:(n == 0)
 all_goals
  go_enter Tryz.func184,Tryz.ntmps184
  go_wp2_with (go_at_call 194; refine (HB.out _).mono ?_; rintro e w' ⟨rfl,rfl⟩)
  go_ret
  refine ⟨ret_bool (by rw [HS.out]; simp [*]),?_⟩
  exact belBy
end Go.Proofs.YtihbaieiempjeaaGreat
