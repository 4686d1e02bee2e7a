/- Lemmas of the proof: Tape, Lab, DrawX, Pg. -/
import Derived.Test.YtihbaieiempjeaaGreatD0
import Derived.Deep.RegionHeld3
import Derived.Outline
namespace Go.Proofs.YtihbaieiempjeaaGreat
open Go.RowKit
theorem key_tdiv (s a:Int):(keyedI s 7 a).tdiv 256=keyedI s 7 a / 256:=Int.tdiv_eq_ediv_of_nonneg (keyedI_range s 7 a).1
theorem key_tmod (s a n:Int):(keyedI s 7 a / 256).tmod n=keyedI s 7 a / 256 % n:=Int.tmod_eq_emod_of_nonneg (by have:=(keyedI_range s 7 a).1; omega)
theorem key_wrap (s a:Int):wrap64 (keyedI s 7 a / 256)=keyedI s 7 a / 256:=IntWalk.wrap64_in _ (by have:=keyedI_range s 7 a; omega)
theorem key_wrapk (s a:Int):IntKind.i64.wrap (keyedI s 7 a / 256)=keyedI s 7 a / 256:=IntWalk.i64_in _ (by have:=keyedI_range s 7 a; omega)
theorem zero_wrap:wrap64 0=0:=IntWalk.wrap64_in _ (by omega)
theorem zero_wrapk:IntKind.i64.wrap 0=0:=IntWalk.i64_in _ (by omega)
attribute [local go_sem] key_tdiv key_tmod key_wrap key_wrapk zero_wrap zero_wrapk
def wordI (s a:Int):Int:=pick (tapeGoB s a) (keyedI s 7 a) 0
def wordAt (s a:Int):Int:=pick (tapeGoB s a) (a + 1) a
theorem wrap_a1 {a:Int} (h0:0≤a) (h1:a≤1000000):IntKind.i64.wrap (a + 1)=a + 1:=IntWalk.i64_in _ (by omega)
attribute [local go_sem] wrap_a1
set_option maxHeartbeats 800000 in
theorem iTapeWord (s a:Int) (w:World) :
  Calls Tryz.prog 189 #[.agg #[.int .i64 s,.int .i64 a]] w fun e w'=>e=.returned (.tuple #[.int .i64 (wordI s a),.agg #[.int .i64 s,.int .i64 (wordAt s a)]])∧Below w.heap.size w w':=by
 cases h1:tapeOkB s a; rotate_left
 cases h2:(a == 1000000)
 ·have e1:wordI s a=keyedI s 7 a:=by unfold wordI tapeGoB; rw [h1,h2]; rfl
  have e2:wordAt s a=a + 1:=by unfold wordAt tapeGoB; rw [h1,h2]; rfl
  obtain ⟨hr0,hr1⟩:=tapeOkB_range h1
  rw [e1,e2]
  clear e1 e2
  go_enter Tryz.func189,Tryz.ntmps189
  have b_0:=(Below.refl w.heap.size w)
  have s_0:=b_0.size
  go_wp2_with fail
  refine calls_forget2 (W:=w) (b0:=w.heap.size) (t0:=27) (c0:=#[.int .i64 s,.int .i64 a]) (b1:=w.heap.size + 1) (t1:=27) (c1:=#[.int .i64 0,.int .i64 0]) ?_ ?_ ?_ ?_
  (focus exact blkcBy)
  (focus exact blkcBy)
  (focus (exact belBy))
  intro X1 t_n r_n hX1
  have sX1:=hX1.size
  have t_lt:=t_n.lt
  have r_lt:=r_n.lt
  refine (iTapeOk _ _ _).mono ?_
  rintro e w1 ⟨rfl,hb1⟩
  have s1:=hb1.size
  have hT1:=hX1.trans (hb1.mono sX1)
  have b_1:=b_0.trans (hT1.mono (by omega))
  have t_1:=Blk.past hb1 t_n
  have r_1:=Blk.past hb1 r_n
  clear b_0 t_n r_n hX1 hT1 hb1
  have cell_t:=t_1.cell
  have froz_t:=t_1.frozen
  have lt_t:=t_1.lt
  have cell_r:=r_1.cell
  have froz_r:=r_1.frozen
  have lt_r:=r_1.lt
  go_wp2_with fail
  go_region_held3 (fun w'=>w'.cell? ⟨w.heap.size,0,none⟩=some (.int .i64 s)∧w'.cell? ⟨w.heap.size,1,none⟩=some (.int .i64 a)) ((refine ⟨(Blk.cell (t:=27) (cs:=#[.int .i64 s,.int .i64 a]) ?qt 0),(Blk.cell ?qt 1)⟩; (case qt=>(exact blkBy)))) (first | (go_at_call 57; refine (iKeyed _ _ _ _).mono ?_; rintro e w' ⟨rfl,rfl⟩))
  all_goals
   go_wp2_with fail
   ((try simp only [Exit.inBlock,Exit.then]); apply bodyPost_ret0; focus ((try simp only [results,Tryz.results189]); (try go_simp); (try rfl)))
   refine ⟨rfl,?_⟩
   exact belBy
 all_goals
  have e1:wordI s a=0:=by
   unfold wordI tapeGoB
   first | (rw [h2]; simp; done) | (rw [h1]; simp; done)
  have e2:wordAt s a=a:=by
   unfold wordAt tapeGoB
   first | (rw [h2]; simp; done) | (rw [h1]; simp; done)
  rw [e1,e2]
  clear e1 e2
  go_enter Tryz.func189,Tryz.ntmps189
  have b_0:=(Below.refl w.heap.size w)
  have s_0:=b_0.size
  go_wp2_with fail
  refine calls_forget2 (W:=w) (b0:=w.heap.size) (t0:=27) (c0:=#[.int .i64 s,.int .i64 a]) (b1:=w.heap.size + 1) (t1:=27) (c1:=#[.int .i64 0,.int .i64 0]) ?_ ?_ ?_ ?_
  (focus exact blkcBy)
  (focus exact blkcBy)
  (focus (exact belBy))
  intro X1 t_n r_n hX1
  have sX1:=hX1.size
  have t_lt:=t_n.lt
  have r_lt:=r_n.lt
  refine (iTapeOk _ _ _).mono ?_
  rintro e w1 ⟨rfl,hb1⟩
  have s1:=hb1.size
  have hT1:=hX1.trans (hb1.mono sX1)
  have b_1:=b_0.trans (hT1.mono (by omega))
  have t_1:=Blk.past hb1 t_n
  have r_1:=Blk.past hb1 r_n
  clear b_0 t_n r_n hX1 hT1 hb1
  have cell_t:=t_1.cell
  have froz_t:=t_1.frozen
  have lt_t:=t_1.lt
  have cell_r:=r_1.cell
  have froz_r:=r_1.frozen
  have lt_r:=r_1.lt
  go_wp2_with fail
  go_region_held3 (fun w'=>w'.cell? ⟨w.heap.size,0,none⟩=some (.int .i64 s)∧w'.cell? ⟨w.heap.size,1,none⟩=some (.int .i64 a)) ((refine ⟨(Blk.cell (t:=27) (cs:=#[.int .i64 s,.int .i64 a]) ?qt 0),(Blk.cell ?qt 1)⟩; (case qt=>(exact blkBy)))) (fail)
  all_goals
   go_wp2_with fail
   ((try simp only [Exit.inBlock,Exit.then]); apply bodyPost_ret0; focus ((try simp only [results,Tryz.results189]); (try go_simp); (try rfl)))
   refine ⟨rfl,?_⟩
   exact belBy
theorem below_yes {s a n:Int} (h1:inB n 1 65536=true) (h2:tapeGoB s a=true):belowI s a n=keyedI s 7 a / 256 % n∧belowAt s a n=a + 1:=by
 unfold belowI belowAt belowB
 rw [h1,h2]
 exact ⟨rfl,rfl⟩
theorem below_noN {s a n:Int} (h1:inB n 1 65536=false):belowI s a n=0∧belowAt s a n=a:=by
 unfold belowI belowAt belowB
 rw [h1]
 exact ⟨rfl,rfl⟩
theorem below_noT {s a n:Int} (h2:tapeGoB s a=false):belowI s a n=0∧belowAt s a n=a:=by
 unfold belowI belowAt belowB
 rw [h2]
 simp
theorem word_yes {s a:Int} (h2:tapeGoB s a=true):wordI s a=keyedI s 7 a∧wordAt s a=a + 1:=by unfold wordI wordAt; rw [h2]; exact ⟨rfl,rfl⟩
theorem go_yes {s a:Int} (h1:tapeOkB s a=true) (h2:(a == 1000000)=false):tapeGoB s a=true:=by unfold tapeGoB; rw [h1,h2]; rfl
theorem go_noO {s a:Int} (h1:tapeOkB s a=false):tapeGoB s a=false:=by unfold tapeGoB; rw [h1]; rfl
theorem go_noE {s a:Int} (h2:(a == 1000000)=true):tapeGoB s a=false:=by unfold tapeGoB; rw [h2]; simp
theorem iTapeWord_yes (s a:Int) (w:World) (h:tapeGoB s a=true) :
  Calls Tryz.prog 189 #[.agg #[.int .i64 s,.int .i64 a]] w fun e w'=>e=.returned (.tuple #[.int .i64 (keyedI s 7 a),.agg #[.int .i64 s,.int .i64 (a + 1)]])∧Below w.heap.size w w':=by
 have h0:=iTapeWord s a w
 rw [(word_yes h).1,(word_yes h).2] at h0
 exact h0
theorem zero_tdiv:(0:Int).tdiv 256=0:=by decide
theorem zero_tmod (n:Int):(0:Int).tmod n=0:=by simp
attribute [local go_sem] zero_tdiv zero_tmod
set_option maxHeartbeats 1600000 in
theorem iTapeBelow (s a n:Int) (w:World) :
  Calls Tryz.prog 167 #[.agg #[.int .i64 s,.int .i64 a],.int .i64 n] w fun e w'=>e=.returned (.tuple #[.int .i64 (belowI s a n),.agg #[.int .i64 s,.int .i64 (belowAt s a n)]])∧Below w.heap.size w w':=by
 cases h0:inB n 1 65536
 ·rw [(below_noN h0).1,(below_noN h0).2]
  go_enter Tryz.func167,Tryz.ntmps167
  go_wp2_with (go_at_call 56; refine (iWithin _ _ _ _).mono ?_; rintro e w' ⟨rfl,rfl⟩)
  have b_0:=(Below.refl w.heap.size w)
  have s_0:=b_0.size
  refine wp_forget2 (w0:=w) (B:=w.heap.size) (b0:=w.heap.size) (t0:=27) (c0:=#[.int .i64 s,.int .i64 a]) (b1:=w.heap.size + 1) (t1:=27) (c1:=#[.int .i64 0,.int .i64 0]) ?_ ?_ ?_ ?_
  (focus exact blkcBy)
  (focus exact blkcBy)
  (focus (exact belBy))
  intro w1 t_1 r_1 hX1
  have sX1:=hX1.size
  have t_lt:=t_1.lt
  have r_lt:=r_1.lt
  have b_1:=b_0.trans (hX1.mono (by omega))
  clear b_0 hX1
  have cell_t:=t_1.cell
  have froz_t:=t_1.frozen
  have lt_t:=t_1.lt
  have cell_r:=r_1.cell
  have froz_r:=r_1.frozen
  have lt_r:=r_1.lt
  go_wp2_with fail
  go_region_held3 (fun w'=>w'.cell? ⟨w.heap.size,0,none⟩=some (.int .i64 s)∧w'.cell? ⟨w.heap.size,1,none⟩=some (.int .i64 a)) ((refine ⟨(Blk.cell (t:=27) (cs:=#[.int .i64 s,.int .i64 a]) ?qt 0),(Blk.cell ?qt 1)⟩; (case qt=>(exact blkBy)))) (fail)
  all_goals
   go_wp2_with fail
   ((try simp only [Exit.inBlock,Exit.then]); apply bodyPost_ret0; focus ((try simp only [results,Tryz.results167]); (try go_simp); (try rfl)))
   refine ⟨rfl,?_⟩
   exact belBy
 obtain ⟨n0,n1⟩:=inB_iff.1 h0
 have hn0:¬ (n=0):=by omega
 cases h1:tapeOkB s a; rotate_left
 cases h2:(a == 1000000)
 ·have hg:=go_yes h1 h2
  rw [(below_yes h0 hg).1,(below_yes h0 hg).2]
  have HG:=hid hg
  clear hg
  obtain ⟨hr0,hr1⟩:=tapeOkB_range h1
  go_enter Tryz.func167,Tryz.ntmps167
  go_wp2_with (go_at_call 56; refine (iWithin _ _ _ _).mono ?_; rintro e w' ⟨rfl,rfl⟩)
  have b_0:=(Below.refl w.heap.size w)
  have s_0:=b_0.size
  go_wp2_with fail
  refine calls_forget2 (W:=w) (b0:=w.heap.size) (t0:=27) (c0:=#[.int .i64 s,.int .i64 a]) (b1:=w.heap.size + 1) (t1:=27) (c1:=#[.int .i64 0,.int .i64 0]) ?_ ?_ ?_ ?_
  (focus exact blkcBy)
  (focus exact blkcBy)
  (focus (exact belBy))
  intro X1 t_n r_n hX1
  have sX1:=hX1.size
  have t_lt:=t_n.lt
  have r_lt:=r_n.lt
  refine (iTapeOk _ _ _).mono ?_
  rintro e w1 ⟨rfl,hb1⟩
  have s1:=hb1.size
  have hT1:=hX1.trans (hb1.mono sX1)
  have b_1:=b_0.trans (hT1.mono (by omega))
  have t_1:=Blk.past hb1 t_n
  have r_1:=Blk.past hb1 r_n
  clear b_0 t_n r_n hX1 hT1 hb1
  have cell_t:=t_1.cell
  have froz_t:=t_1.frozen
  have lt_t:=t_1.lt
  have cell_r:=r_1.cell
  have froz_r:=r_1.frozen
  have lt_r:=r_1.lt
  go_wp2_with fail
  refine calls_forget0 (W:=w1) ?_ ?_
  (focus (exact belBy))
  intro X2 hX2
  have sX2:=hX2.size
  refine (iTapeWord_yes _ _ _ HG.out).mono ?_
  rintro e w2 ⟨rfl,hb2⟩
  have s2:=hb2.size
  have hT2:=hX2.trans (hb2.mono sX2)
  have b_2:=b_1.trans (hT2.mono (by omega))
  have t_2:=Blk.past hT2 t_1
  have r_2:=Blk.past hT2 r_1
  clear t_1 r_1 b_1 cell_t froz_t lt_t cell_r froz_r lt_r hX2 hT2 hb2
  have cell_t:=t_2.cell
  have froz_t:=t_2.frozen
  have lt_t:=t_2.lt
  have cell_r:=r_2.cell
  have froz_r:=r_2.frozen
  have lt_r:=r_2.lt
  go_wp2_with fail
  refine wp_forget1 (w0:=w2) (B:=w2.heap.size) (b0:=w2.heap.size) (t0:=27) (c0:=#[.int .i64 s,.int .i64 (a + 1)]) ?_ ?_ ?_
  (focus exact blkcBy)
  (focus (exact belBy))
  intro w3 nx_3 hX3
  have sX3:=hX3.size
  have nx_lt:=nx_3.lt
  have b_3:=b_2.trans (hX3.mono (by omega))
  have t_3:=Blk.past hX3 t_2
  have r_3:=Blk.past hX3 r_2
  clear t_2 r_2 b_2 cell_t froz_t lt_t cell_r froz_r lt_r hX3
  have cell_t:=t_3.cell
  have froz_t:=t_3.frozen
  have lt_t:=t_3.lt
  have cell_r:=r_3.cell
  have froz_r:=r_3.frozen
  have lt_r:=r_3.lt
  have cell_nx:=nx_3.cell
  have froz_nx:=nx_3.frozen
  have lt_nx:=nx_3.lt
  go_wp2_with fail
  go_region_held3 (fun w'=>w'.cell? ⟨w2.heap.size,0,none⟩=some (.int .i64 s)∧w'.cell? ⟨w2.heap.size,1,none⟩=some (.int .i64 (a + 1))) ((refine ⟨(Blk.cell (t:=27) (cs:=#[.int .i64 s,.int .i64 (a + 1)]) ?qnx 0),(Blk.cell ?qnx 1)⟩; (case qnx=>(exact blkBy)))) (fail)
  all_goals
   go_wp2_with fail
   ((try simp only [Exit.inBlock,Exit.then]); apply bodyPost_ret0; focus ((try simp only [results,Tryz.results167]); (try go_simp); (try rfl)))
   refine ⟨rfl,?_⟩
   exact belBy
 all_goals
  have hg:tapeGoB s a=false:=by first | exact go_noO h1 | exact go_noE h2
  rw [(below_noT hg).1,(below_noT hg).2]
  clear hg
  go_enter Tryz.func167,Tryz.ntmps167
  go_wp2_with (go_at_call 56; refine (iWithin _ _ _ _).mono ?_; rintro e w' ⟨rfl,rfl⟩)
  have b_0:=(Below.refl w.heap.size w)
  have s_0:=b_0.size
  go_wp2_with fail
  refine calls_forget2 (W:=w) (b0:=w.heap.size) (t0:=27) (c0:=#[.int .i64 s,.int .i64 a]) (b1:=w.heap.size + 1) (t1:=27) (c1:=#[.int .i64 0,.int .i64 0]) ?_ ?_ ?_ ?_
  (focus exact blkcBy)
  (focus exact blkcBy)
  (focus (exact belBy))
  intro X1 t_n r_n hX1
  have sX1:=hX1.size
  have t_lt:=t_n.lt
  have r_lt:=r_n.lt
  refine (iTapeOk _ _ _).mono ?_
  rintro e w1 ⟨rfl,hb1⟩
  have s1:=hb1.size
  have hT1:=hX1.trans (hb1.mono sX1)
  have b_1:=b_0.trans (hT1.mono (by omega))
  have t_1:=Blk.past hb1 t_n
  have r_1:=Blk.past hb1 r_n
  clear b_0 t_n r_n hX1 hT1 hb1
  have cell_t:=t_1.cell
  have froz_t:=t_1.frozen
  have lt_t:=t_1.lt
  have cell_r:=r_1.cell
  have froz_r:=r_1.frozen
  have lt_r:=r_1.lt
  go_wp2_with fail
  go_region_held3 (fun w'=>w'.cell? ⟨w.heap.size,0,none⟩=some (.int .i64 s)∧w'.cell? ⟨w.heap.size,1,none⟩=some (.int .i64 a)) ((refine ⟨(Blk.cell (t:=27) (cs:=#[.int .i64 s,.int .i64 a]) ?qt 0),(Blk.cell ?qt 1)⟩; (case qt=>(exact blkBy)))) (fail)
  all_goals
   go_wp2_with fail
   ((try simp only [Exit.inBlock,Exit.then]); apply bodyPost_ret0; focus ((try simp only [results,Tryz.results167]); (try go_simp); (try rfl)))
   refine ⟨rfl,?_⟩
   exact belBy
open Go.RowKit
def labelB (x:Int):Bool:=inB x 0 65535
theorem labelB_iff {x:Int}:labelB x=true↔0≤x∧x≤65535:=inB_iff
theorem below_label (s a n:Int):labelB (belowI s a n)=true:=inB_iff.2 (belowI_range s a n)
theorem xor_label {a b:Int} (ha:labelB a=true) (hb:labelB b=true):labelB (bits .xor .i64 a b)=true:=by
 obtain ⟨a0,a1⟩:=labelB_iff.1 ha
 obtain ⟨b0,b1⟩:=labelB_iff.1 hb
 obtain ⟨x,rfl⟩:=Int.eq_ofNat_of_zero_le a0
 obtain ⟨y,rfl⟩:=Int.eq_ofNat_of_zero_le b0
 rw [xor_nat x y (by omega) (by omega)]
 have h:x ^^^ y < 2 ^ 16:=Nat.xor_lt_two_pow (by omega) (by omega)
 exact labelB_iff.2 (by omega)
theorem xor_zero {a:Int} (ha:labelB a=true):bits .xor .i64 a 0=a:=by
 obtain ⟨a0,a1⟩:=labelB_iff.1 ha
 obtain ⟨x,rfl⟩:=Int.eq_ofNat_of_zero_le a0
 have h:=xor_nat x 0 (by omega) (by omega)
 rw [Nat.xor_zero] at h
 exact h
def zeroI (s k:Int):Int:=belowI (keyedI s 9 k) 0 65536
def deltaI (s a:Int):Int:=bits .or .i64 (belowI s a 65536) 1
theorem zero_label (s k:Int):labelB (zeroI s k)=true:=below_label _ _ _
theorem delta_label (s a:Int):labelB (deltaI s a)=true:=by
 unfold deltaI
 obtain ⟨a0,a1⟩:=labelB_iff.1 (below_label s a 65536)
 obtain ⟨x,hx⟩:=Int.eq_ofNat_of_zero_le a0
 rw [hx] at a1 ⊢
 have e:=or_nat x 1 (by omega) (by omega)
 have h:x ||| 1 < 2 ^ 16:=Nat.or_lt_two_pow (by omega) (by omega)
 rw [show (1:Int)=((1:Nat):Int) from rfl,e]
 exact labelB_iff.2 (by omega)
def lblI (z d v:Int):Int:=pick (v == 1) (bits .xor .i64 z d) z
theorem lbl_label {z d:Int} (v:Int) (hz:labelB z=true) (hd:labelB d=true):labelB (lblI z d v)=true:=by
 unfold lblI
 cases v == 1
 ·exact hz
 ·exact xor_label hz hd
theorem bit_cases {v:Int} (h:inB v 0 1=true):v=0∨v=1:=by
 have:=inB_iff.1 h
 omega
def bitsB (xs:List Int):Bool:=xs.all fun x=>inB x 0 1
theorem bitsB_no {xs:List Int} {k:Nat} {x:Int} (h:xs[k]? = some x) (hx:inB x 0 1=false):bitsB xs=false:=by
 unfold bitsB
 rw [List.all_eq_false]
 exact ⟨x,List.mem_of_getElem? h,by simp [hx]⟩
theorem bitsB_snoc {xs:List Int} {k:Nat} {x:Int} (h:xs[k]? = some x) (hw:bitsB (xs.take k)=true) (hx:inB x 0 1=true):bitsB (xs.take (k + 1))=true:=by
 rw [take_snoc h]
 unfold bitsB at *
 simp [hw,hx,List.all_append]
theorem bitsB_get {xs:List Int} {k:Nat} {x:Int} (h:bitsB xs=true) (hk:xs[k]? = some x):inB x 0 1=true:=by
 unfold bitsB at h
 rw [List.all_eq_true] at h
 exact h x (List.mem_of_getElem? hk)
def labsTo (s a:Int) (bs:List Int):Nat→List Int
 | 0=>[]
 | j + 1=>labsTo s a bs j ++ [lblI (zeroI s j) (deltaI s a) (bs.getD j 0)]
theorem labsTo_length (s a:Int) (bs:List Int) (j:Nat):(labsTo s a bs j).length=j:=by
 induction j with
 | zero=>rfl
 | succ j ih=>simp [labsTo,ih]
theorem labsTo_succ {s a:Int} {bs:List Int} {j:Nat} {x:Int} (h:bs[j]? = some x):labsTo s a bs (j + 1)=labsTo s a bs j ++ [lblI (zeroI s j) (deltaI s a) x]:=by
 rw [labsTo,List.getD_eq_getElem?_getD,h]
 rfl
theorem labsTo_get (s a:Int) (bs:List Int) (k:Nat):∀ j,k < j→(labsTo s a bs j)[k]? = some (lblI (zeroI s k) (deltaI s a) (bs.getD k 0))
 | 0,h=>absurd h (by omega)
 | j + 1,h=>by
  rw [labsTo,List.getElem?_append]
  by_cases hk:k < j
  ·rw [if_pos (by rw [labsTo_length]; exact hk)]
   exact labsTo_get s a bs k j hk
  ·have e:k=j:=by omega
   subst e
   rw [if_neg (by rw [labsTo_length]; omega),labsTo_length]
   simp
theorem iIsLabel (x:Int) (w:World):Calls Tryz.prog 172 #[.int .i64 x] w fun e w'=>e=.returned (.bool (labelB x))∧w=w':=by
 go_enter Tryz.func172,Tryz.ntmps172
 go_wp2_with (go_at_call 56; refine (iWithin _ _ _ _).mono ?_; rintro e w' ⟨rfl,rfl⟩)
 go_ret
 exact ⟨rfl,rfl⟩
set_option maxHeartbeats 800000 in
theorem iTapeFork (s a k:Int) (w:World) (h1:tapeOkB s a=true) (h2:inB k 0 1000000=true) :
  Calls Tryz.prog 14 #[.agg #[.int .i64 s,.int .i64 a],.int .i64 k] w fun e w'=>e=.returned (.agg #[.int .i64 (keyedI s 9 k),.int .i64 0])∧Below w.heap.size w w':=by
 go_enter Tryz.func14,Tryz.ntmps14
 have b_0:=(Below.refl w.heap.size w)
 have s_0:=b_0.size
 go_wp2_with fail
 refine calls_forget2 (W:=w) (b0:=w.heap.size) (t0:=27) (c0:=#[.int .i64 s,.int .i64 a]) (b1:=w.heap.size + 1) (t1:=27) (c1:=#[.int .i64 0,.int .i64 0]) ?_ ?_ ?_ ?_
 (focus exact blkcBy)
 (focus exact blkcBy)
 (focus (exact belBy))
 intro X1 t_n r_n hX1
 have sX1:=hX1.size
 have t_lt:=t_n.lt
 have r_lt:=r_n.lt
 refine (iTapeOk _ _ _).mono ?_
 rintro e w1 ⟨rfl,hb1⟩
 have s1:=hb1.size
 have hT1:=hX1.trans (hb1.mono sX1)
 have b_1:=b_0.trans (hT1.mono (by omega))
 have t_1:=Blk.past hb1 t_n
 have r_1:=Blk.past hb1 r_n
 clear b_0 t_n r_n hX1 hT1 hb1
 have cell_t:=t_1.cell
 have froz_t:=t_1.frozen
 have lt_t:=t_1.lt
 have cell_r:=r_1.cell
 have froz_r:=r_1.frozen
 have lt_r:=r_1.lt
 go_wp2_with fail
 refine calls_forget0 (W:=w1) ?_ ?_
 (focus (exact belBy))
 intro X2 hX2
 have sX2:=hX2.size
 refine (iWithin _ _ _ _).mono ?_
 rintro e w' ⟨rfl,rfl⟩
 have b_2:=b_1.trans (hX2.mono (by omega))
 have t_2:=Blk.past hX2 t_1
 have r_2:=Blk.past hX2 r_1
 clear t_1 r_1 b_1 cell_t froz_t lt_t cell_r froz_r lt_r hX2
 have cell_t:=t_2.cell
 have froz_t:=t_2.frozen
 have lt_t:=t_2.lt
 have cell_r:=r_2.cell
 have froz_r:=r_2.frozen
 have lt_r:=r_2.lt
 go_wp2_with fail
 refine calls_forget0 (W:=X2) ?_ ?_
 (focus (exact belBy))
 intro X3 hX3
 have sX3:=hX3.size
 refine (iKeyed _ _ _ _).mono ?_
 rintro e w' ⟨rfl,rfl⟩
 have b_3:=b_2.trans (hX3.mono (by omega))
 have t_3:=Blk.past hX3 t_2
 have r_3:=Blk.past hX3 r_2
 clear t_2 r_2 b_2 cell_t froz_t lt_t cell_r froz_r lt_r hX3
 have cell_t:=t_3.cell
 have froz_t:=t_3.frozen
 have lt_t:=t_3.lt
 have cell_r:=r_3.cell
 have froz_r:=r_3.frozen
 have lt_r:=r_3.lt
 go_wp2_with fail
 ((try simp only [Exit.inBlock,Exit.then]); apply bodyPost_ret0; focus ((try simp only [results,Tryz.results14]); (try go_simp); (try rfl)))
 refine ⟨rfl,?_⟩
 exact belBy
set_option maxHeartbeats 800000 in
theorem iInputZero (s a k:Int) (w:World) (h1:tapeOkB s a=true) (h2:inB k 0 1000000=true) :
  Calls Tryz.prog 98 #[.agg #[.int .i64 s,.int .i64 a],.int .i64 k] w fun e w'=>e=.returned (.int .i64 (zeroI s k))∧Below w.heap.size w w':=by
 have hF:=hid (fun w=>iTapeFork s a k w h1 h2)
 go_enter Tryz.func98,Tryz.ntmps98
 have b_0:=(Below.refl w.heap.size w)
 have s_0:=b_0.size
 go_wp2_with fail
 refine calls_forget1 (W:=w) (b0:=w.heap.size) (t0:=27) (c0:=#[.int .i64 s,.int .i64 a]) ?_ ?_ ?_
 (focus exact blkcBy)
 (focus (exact belBy))
 intro X1 t_n hX1
 have sX1:=hX1.size
 have t_lt:=t_n.lt
 refine (iTapeOk _ _ _).mono ?_
 rintro e w1 ⟨rfl,hb1⟩
 have s1:=hb1.size
 have hT1:=hX1.trans (hb1.mono sX1)
 have b_1:=b_0.trans (hT1.mono (by omega))
 have t_1:=Blk.past hb1 t_n
 clear b_0 t_n hX1 hT1 hb1
 have cell_t:=t_1.cell
 have froz_t:=t_1.frozen
 have lt_t:=t_1.lt
 go_wp2_with fail
 refine calls_forget0 (W:=w1) ?_ ?_
 (focus (exact belBy))
 intro X2 hX2
 have sX2:=hX2.size
 refine (iWithin _ _ _ _).mono ?_
 rintro e w' ⟨rfl,rfl⟩
 have b_2:=b_1.trans (hX2.mono (by omega))
 have t_2:=Blk.past hX2 t_1
 clear t_1 b_1 cell_t froz_t lt_t hX2
 have cell_t:=t_2.cell
 have froz_t:=t_2.frozen
 have lt_t:=t_2.lt
 go_wp2_with fail
 refine calls_forget0 (W:=X2) ?_ ?_
 (focus (exact belBy))
 intro X3 hX3
 have sX3:=hX3.size
 refine (hF.out _).mono ?_
 rintro e w3 ⟨rfl,hb3⟩
 have s3:=hb3.size
 have hT3:=hX3.trans (hb3.mono sX3)
 have b_3:=b_2.trans (hT3.mono (by omega))
 have t_3:=Blk.past hT3 t_2
 clear t_2 b_2 cell_t froz_t lt_t hX3 hT3 hb3
 have cell_t:=t_3.cell
 have froz_t:=t_3.frozen
 have lt_t:=t_3.lt
 go_wp2_with fail
 refine calls_forget0 (W:=w3) ?_ ?_
 (focus (exact belBy))
 intro X4 hX4
 have sX4:=hX4.size
 refine (iTapeBelow _ _ _ _).mono ?_
 rintro e w4 ⟨rfl,hb4⟩
 have s4:=hb4.size
 have hT4:=hX4.trans (hb4.mono sX4)
 have b_4:=b_3.trans (hT4.mono (by omega))
 have t_4:=Blk.past hT4 t_3
 clear t_3 b_3 cell_t froz_t lt_t hX4 hT4 hb4
 have cell_t:=t_4.cell
 have froz_t:=t_4.frozen
 have lt_t:=t_4.lt
 go_wp2_with fail
 go_ret
 refine ⟨rfl,?_⟩
 exact belBy
set_option maxHeartbeats 800000 in
theorem iDeltaOf (s a:Int) (w:World) (h1:tapeOkB s a=true) (h2:a≤900000) :
  Calls Tryz.prog 95 #[.agg #[.int .i64 s,.int .i64 a]] w fun e w'=>e=.returned (.tuple #[.int .i64 (deltaI s a),.agg #[.int .i64 s,.int .i64 (belowAt s a 65536)]])∧Below w.heap.size w w':=by
 have h3:decide (900000 < a)=false:=by simp; omega
 clear h2
 go_enter Tryz.func95,Tryz.ntmps95
 have b_0:=(Below.refl w.heap.size w)
 have s_0:=b_0.size
 go_wp2_with fail
 refine calls_forget2 (W:=w) (b0:=w.heap.size) (t0:=27) (c0:=#[.int .i64 s,.int .i64 a]) (b1:=w.heap.size + 1) (t1:=27) (c1:=#[.int .i64 0,.int .i64 0]) ?_ ?_ ?_ ?_
 (focus exact blkcBy)
 (focus exact blkcBy)
 (focus (exact belBy))
 intro X1 t_n r_n hX1
 have sX1:=hX1.size
 have t_lt:=t_n.lt
 have r_lt:=r_n.lt
 refine (iTapeOk _ _ _).mono ?_
 rintro e w1 ⟨rfl,hb1⟩
 have s1:=hb1.size
 have hT1:=hX1.trans (hb1.mono sX1)
 have b_1:=b_0.trans (hT1.mono (by omega))
 have t_1:=Blk.past hb1 t_n
 have r_1:=Blk.past hb1 r_n
 clear b_0 t_n r_n hX1 hT1 hb1
 have cell_t:=t_1.cell
 have froz_t:=t_1.frozen
 have lt_t:=t_1.lt
 have cell_r:=r_1.cell
 have froz_r:=r_1.frozen
 have lt_r:=r_1.lt
 go_wp2_with fail
 refine calls_forget0 (W:=w1) ?_ ?_
 (focus (exact belBy))
 intro X2 hX2
 have sX2:=hX2.size
 refine (iTapeBelow _ _ _ _).mono ?_
 rintro e w2 ⟨rfl,hb2⟩
 have s2:=hb2.size
 have hT2:=hX2.trans (hb2.mono sX2)
 have b_2:=b_1.trans (hT2.mono (by omega))
 have t_2:=Blk.past hT2 t_1
 have r_2:=Blk.past hT2 r_1
 clear t_1 r_1 b_1 cell_t froz_t lt_t cell_r froz_r lt_r hX2 hT2 hb2
 have cell_t:=t_2.cell
 have froz_t:=t_2.frozen
 have lt_t:=t_2.lt
 have cell_r:=r_2.cell
 have froz_r:=r_2.frozen
 have lt_r:=r_2.lt
 go_wp2_with fail
 refine wp_forget1 (w0:=w2) (B:=w2.heap.size) (b0:=w2.heap.size) (t0:=27) (c0:=#[.int .i64 s,.int .i64 (belowAt s a 65536)]) ?_ ?_ ?_
 (focus exact blkcBy)
 (focus (exact belBy))
 intro w3 nx_3 hX3
 have sX3:=hX3.size
 have nx_lt:=nx_3.lt
 have b_3:=b_2.trans (hX3.mono (by omega))
 have t_3:=Blk.past hX3 t_2
 have r_3:=Blk.past hX3 r_2
 clear t_2 r_2 b_2 cell_t froz_t lt_t cell_r froz_r lt_r hX3
 have cell_t:=t_3.cell
 have froz_t:=t_3.frozen
 have lt_t:=t_3.lt
 have cell_r:=r_3.cell
 have froz_r:=r_3.frozen
 have lt_r:=r_3.lt
 have cell_nx:=nx_3.cell
 have froz_nx:=nx_3.frozen
 have lt_nx:=nx_3.lt
 go_wp2_with fail
 go_region_held3 (fun w'=>w'.cell? ⟨w2.heap.size,0,none⟩=some (.int .i64 s)∧w'.cell? ⟨w2.heap.size,1,none⟩=some (.int .i64 (belowAt s a 65536))) ((refine ⟨(Blk.cell (t:=27) (cs:=#[.int .i64 s,.int .i64 (belowAt s a 65536)]) ?qnx 0),(Blk.cell ?qnx 1)⟩; (case qnx=>(exact blkBy)))) (fail)
 all_goals
  go_wp2_with fail
  ((try simp only [Exit.inBlock,Exit.then]); apply bodyPost_ret0; focus ((try simp only [results,Tryz.results95]); (try go_simp); (try rfl)))
  refine ⟨rfl,?_⟩
  exact belBy
theorem iLabels (A:Option Addr) (c:Nat) (xs:List Int) (w:World) (hx:∀ (j:Nat) (x:Int),xs[j]? = some x→labelB x=true) (hc:Cells w w.heap.size A (ints xs)) (hn:xs.length≤1000000000) :
  Calls Tryz.prog 110 #[.slice A xs.length c] w fun e w'=>e=.returned (.bool true)∧w=w':=by
 go_enter Tryz.func110,Tryz.ntmps110
 go_wp2
 go_loop [4,7] (fun _ i=>∃ j:Nat,j≤xs.length∧i=.int .i64 j) (fun _ i=>xs.length - (intOf i).toNat)
 case atStart=>exact ⟨0,Nat.zero_le _,rfl⟩
 case round =>
  obtain ⟨j,hj,rfl⟩:=hrel
  by_cases hlt:j < xs.length
  ·obtain ⟨x,hx1⟩:∃ x,xs[j]? = some x:=⟨_,List.getElem?_eq_getElem hlt⟩
   have hb:=hx j x hx1
   obtain ⟨b,off,rfl,hB,hcl⟩:=hc (by rw [ints_length]; omega)
   have hcell:w.cell? ⟨b,off + j,none⟩=some (.int .i64 x):=hcl j _ (ints_get hx1)
   clear hcl hc hx hx1
   go_wp2_with (go_at_call 172; refine (iIsLabel _ _).mono ?_; rintro e w' ⟨rfl,rfl⟩)
   go_round
   case rel=>exact ⟨j + 1,by omega,by go_num⟩
   case measure=>simp [intOf]; omega
  ·obtain rfl:j=xs.length:=by omega
   go_wp2
   go_ret
   exact ⟨rfl,rfl⟩
theorem cells_lit (w:World) (xs:List Int) (t:TypeId):Cells (w.alloc (.cells (ints xs).toArray t)) (w.alloc (.cells (ints xs).toArray t)).heap.size (some ⟨w.heap.size,0,none⟩) (ints xs):=fun _ =>
 ⟨w.heap.size,0,rfl,by simp,fun i v hv=>by
  have h:=(Blk.new (w:=w) (b:=w.heap.size) (t:=t) (cs:=(ints xs).toArray) rfl).cell i
  rw [Nat.zero_add,h]
  simpa using hv⟩
theorem iLab2 (a b:Int) (c:Nat) (t:TypeId) (w:World) (ha:labelB a=true) (hb:labelB b=true) :
  Calls Tryz.prog 110 #[.slice (some ⟨w.heap.size,0,none⟩) 2 c] (w.alloc (.cells #[.int .i64 a,.int .i64 b] t)) fun e w'=>e=.returned (.bool true)∧(w.alloc (.cells #[.int .i64 a,.int .i64 b] t))=w' :=
 iLabels (some ⟨w.heap.size,0,none⟩) c [a,b] (w.alloc (.cells #[.int .i64 a,.int .i64 b] t)) (fun j x h=>by
  have hm:=List.mem_of_getElem? h
  simp only [List.mem_cons,List.not_mem_nil,or_false] at hm
  rcases hm with rfl | rfl <;> assumption) (cells_lit w [a,b] t) (by simp)
theorem iLab4 (a b d f:Int) (c:Nat) (t:TypeId) (w:World) (ha:labelB a=true) (hb:labelB b=true) (hd:labelB d=true) (hf:labelB f=true) :
  Calls Tryz.prog 110 #[.slice (some ⟨w.heap.size,0,none⟩) 4 c] (w.alloc (.cells #[.int .i64 a,.int .i64 b,.int .i64 d,.int .i64 f] t)) fun e w'=>e=.returned (.bool true)∧(w.alloc (.cells #[.int .i64 a,.int .i64 b,.int .i64 d,.int .i64 f] t))=w' :=
 iLabels (some ⟨w.heap.size,0,none⟩) c [a,b,d,f] (w.alloc (.cells #[.int .i64 a,.int .i64 b,.int .i64 d,.int .i64 f] t)) (fun j x h=>by
  have hm:=List.mem_of_getElem? h
  simp only [List.mem_cons,List.not_mem_nil,or_false] at hm
  rcases hm with rfl | rfl | rfl | rfl <;> assumption) (cells_lit w [a,b,d,f] t) (by simp)
theorem mul_wraps {d:Int} (hd:labelB d=true):wrap64 (1 * d)=d∧wrap64 (0 * d)=0:=by
 have h1:=labelB_iff.1 hd
 exact ⟨by rw [Int.one_mul]; exact IntWalk.wrap64_in _ (by omega),by rw [Int.zero_mul]; exact IntWalk.wrap64_in _ (by omega)⟩
set_option maxHeartbeats 800000 in
theorem iLabelFor (z d v:Int) (w:World) (hz:labelB z=true) (hd:labelB d=true) (hv:inB v 0 1=true) :
  Calls Tryz.prog 100 #[.int .i64 z,.int .i64 d,.int .i64 v] w fun e w'=>e=.returned (.int .i64 (lblI z d v))∧Below w.heap.size w w':=by
 have hw:=hid (mul_wraps hd)
 rcases bit_cases hv with rfl | rfl
 ·have e:bits .xor .i64 z 0=lblI z d 0:=xor_zero hz
  have E:=hid e
  clear e
  go_enter Tryz.func100,Tryz.ntmps100
  go_wp2_with (first | (go_at_call 110; refine (iLab2 _ _ _ _ _ hz hd).mono ?_; rintro e w' ⟨rfl,rfl⟩) | (go_at_call 56; refine (iWithin _ _ _ _).mono ?_; rintro e w' ⟨rfl,rfl⟩))
  go_ret
  refine ⟨ret_int (by have h:=hw.out; have e:=E.out; simp_all),?_⟩
  exact belBy
 ·have e:bits .xor .i64 z d=lblI z d 1:=rfl
  have E:=hid e
  clear e
  go_enter Tryz.func100,Tryz.ntmps100
  go_wp2_with (first | (go_at_call 110; refine (iLab2 _ _ _ _ _ hz hd).mono ?_; rintro e w' ⟨rfl,rfl⟩) | (go_at_call 56; refine (iWithin _ _ _ _).mono ?_; rintro e w' ⟨rfl,rfl⟩))
  go_ret
  refine ⟨ret_int (by have h:=hw.out; have e:=E.out; simp_all),?_⟩
  exact belBy
theorem iBits (A:Option Addr) (c:Nat) (xs:List Int) (w:World) (hc:Cells w w.heap.size A (ints xs)) (hn:xs.length≤1000000000) :
  Calls Tryz.prog 93 #[.slice A xs.length c] w fun e w'=>e=.returned (.bool (bitsB xs))∧w=w':=by
 go_enter Tryz.func93,Tryz.ntmps93
 go_wp2
 go_loop [4,7] (fun _ i=>∃ j:Nat,j≤xs.length∧i=.int .i64 j∧bitsB (xs.take j)=true) (fun _ i=>xs.length - (intOf i).toNat)
 case atStart=>exact ⟨0,Nat.zero_le _,rfl,rfl⟩
 case round =>
  obtain ⟨j,hj,rfl,hw⟩:=hrel
  by_cases hlt:j < xs.length
  ·obtain ⟨x,hx⟩:∃ x,xs[j]? = some x:=⟨_,List.getElem?_eq_getElem hlt⟩
   obtain ⟨b,off,rfl,hB,hcl⟩:=hc (by rw [ints_length]; omega)
   have hcell:w.cell? ⟨b,off + j,none⟩=some (.int .i64 x):=hcl j _ (ints_get hx)
   have HW:=hid hw
   have HX:=hid hx
   clear hcl hc hw hx
   cases hb:inB x 0 1
   ·go_wp2_with (go_at_call 56; refine (iWithin _ _ _ _).mono ?_; rintro e w' ⟨rfl,rfl⟩)
    go_ret
    exact ⟨ret_bool (by rw [bitsB_no HX.out hb]),rfl⟩
   ·go_wp2_with (go_at_call 56; refine (iWithin _ _ _ _).mono ?_; rintro e w' ⟨rfl,rfl⟩)
    go_round
    case rel=>exact ⟨j + 1,by omega,by go_num,bitsB_snoc HX.out HW.out hb⟩
    case measure=>simp [intOf]; omega
  ·obtain rfl:j=xs.length:=by omega
   rw [List.take_length] at hw
   have HW:=hid hw
   clear hw
   go_wp2
   go_ret
   exact ⟨ret_bool HW.out.symm,rfl⟩
theorem sBits (A:Option Addr) (c:Nat) (xs:List Int) (n:Int) (w:World) (hc:Cells w w.heap.size A (ints xs)) (hn:xs.length≤1000000000) :
  Calls Tryz.prog 63 #[.slice A xs.length c,.int .i64 n] w fun e w'=>e=.returned (.bool (bitsB xs && ((xs.length:Int) == n)))∧w=w':=by
 go_enter Tryz.func63,Tryz.ntmps63
 go_wp2
 go_loop [5] (fun i=>∃ j:Nat,j≤xs.length∧i=.int .i64 j∧bitsB (xs.take j)=true) (fun i=>xs.length - (intOf i).toNat)
 case atStart=>exact ⟨0,Nat.zero_le _,rfl,rfl⟩
 case round =>
  obtain ⟨j,hj,rfl,hw⟩:=hrel
  by_cases hlt:j < xs.length
  ·obtain ⟨x,hx⟩:∃ x,xs[j]? = some x:=⟨_,List.getElem?_eq_getElem hlt⟩
   obtain ⟨b,off,rfl,hB,hcl⟩:=hc (by rw [ints_length]; omega)
   have hcell:w.cell? ⟨b,off + j,none⟩=some (.int .i64 x):=hcl j _ (ints_get hx)
   have HW:=hid hw
   have HX:=hid hx
   clear hcl hc hw hx
   cases hb:inB x 0 1
   ·go_wp2_with (go_at_call 123; refine (sWithin _ _ _ _).mono ?_; rintro e w' ⟨rfl,rfl⟩)
    go_ret
    exact ⟨ret_bool (by rw [bitsB_no HX.out hb]; rfl),rfl⟩
   ·go_wp2_with (go_at_call 123; refine (sWithin _ _ _ _).mono ?_; rintro e w' ⟨rfl,rfl⟩)
    go_round
    case rel=>exact ⟨j + 1,by omega,by go_num,bitsB_snoc HX.out HW.out hb⟩
    case measure=>simp [intOf]; omega
  ·obtain rfl:j=xs.length:=by omega
   rw [List.take_length] at hw
   have HW:=hid hw
   clear hw
   go_wp2
   go_ret
   exact ⟨ret_bool (by rw [HW.out]; rfl),rfl⟩
open Go.RowKit
theorem Touch.trans_new {L M:List Nat} {w w1 w2:World} (h1:Touch L w w1) (h2:Touch M w1 w2) (hM:∀ i∈M,w.heap.size≤i):Touch L w w2 :=
 ⟨h2.os.trans h1.os,h2.tape.trans h1.tape,h2.output.trans h1.output,Nat.le_trans h1.size h2.size,fun i hi hn=>(h2.block i (Nat.lt_of_lt_of_le hi h1.size) (fun hm=>by have:=hM i hm; omega)).trans (h1.block i hi hn)⟩
theorem below0_touch {L:List Nat} {w0 w w':World} (h:Touch L w w') (h0:Below 0 w0 w):Below 0 w0 w' :=
 ⟨h.os.trans h0.os,h.tape.trans h0.tape,h.output.trans h0.output,Nat.le_trans h0.size h.size,fun i hi=>absurd hi (Nat.not_lt_zero i)⟩
theorem Touch.of_below {L:List Nat} {w w':World} (h:Below w.heap.size w w'):Touch L w w':=⟨h.os,h.tape,h.output,h.size,fun i hi _=>h.block i hi⟩
theorem Touch.trans_b {L:List Nat} {w w1 w2:World} (h:Touch L w w1) (hb:Below w.heap.size w1 w2):Touch L w w2 :=
 ⟨hb.os.trans h.os,hb.tape.trans h.tape,hb.output.trans h.output,Nat.le_trans h.size hb.size,fun i hi hn=>(hb.block i hi).trans (h.block i hi hn)⟩
theorem Touch.grown {L:List Nat} {w w1 w2:World} {row:Option Nat} (h:Touch L w w1) (hg:w1.grownBy w2 row) (hlo:∀ q,row=some q→w.heap.size≤q):Touch L w w2 :=
 h.trans_b (gr_below hg (Below.refl _ _) h.size hlo)
set_option maxRecDepth 100000 in
set_option maxHeartbeats 800000 in
theorem list_any (P:Int) (n p:Nat) (A:Option Addr) (c:Nat) (bs:List Int) (w:World) (hP:1≤P) (hP2:P≤1000) (hn:n≤1000) (hc:Cur w p A bs.length c) (hb:Bytes w p A bs) :
  Calls Tryz.prog 79 #[.pointer (some ⟨p,0,none⟩),.int .i64 P,.int .i64 n] w fun e w'=>∃ (xs:List Int) (A':Option Addr) (c':Nat),(xs.length=n∧∀ x∈xs,0≤x∧x < P)∧e=.returned (.slice A' n c') ∧
   w'.ownsRow w.heap.size 3 1 (.slice A' n c') n (ints xs)∧Cur w' p A bs.length c∧Touch [p] w w':=by
 have HB:=hid hb
 have HC:=hid hc
 have hp:=hc.lt
 clear hb hc
 go_enter Tryz.func79,Tryz.ntmps79
 go_wp2_with fail
 go_loopw [7,8] (fun o i wr=>∃ (k:Nat) (xs:List Int) (A':Option Addr) (c':Nat),k≤n∧i=.int .i64 k∧xs.length=k∧o=.slice A' k c'∧(∀ x∈xs,0≤x∧x < P) ∧
  wr.ownsRow w.heap.size 3 1 (.slice A' k c') k (ints xs)∧Cur wr p A bs.length c∧Touch [p] w wr) (fun _ i _=>n - (intOf i).toNat)
 case atStart=>exact ⟨0,[],some ⟨w.heap.size,0,none⟩,0,Nat.zero_le _,rfl,rfl,rfl,by simp,own_lit (size:=1) #[] 0 rfl (Nat.le_refl _) (Nat.zero_le _) rfl,HC.out.alloc _,(Touch.refl _ _).alloc _⟩
 case round =>
  obtain ⟨k,xs,A',c',hk,rfl,hlen,rfl,hsm,hown,hcu,htw⟩:=hrel
  have zw:=htw.size
  have HL:=hid hlen
  have HS:=hid hsm
  have HO:=hid hown
  have HU:=hid hcu
  have HD:=hid htw
  clear hlen hsm hown hcu htw
  by_cases hlt:k < n
  ·have hlt':(k:Int) < (n:Int):=by omega
   go_wp2_with fail
   refine (below_any _ _ _ _ _ _ (by omega) (by omega) HU.out (HB.out.touch HD.out (by omega))).mono ?_
   rintro e w2 ⟨r,rfl,hr0,hr1,hc2,hT⟩
   have z2:=hT.size
   have ho2:=own_touch' hT HO.out (fun q hq=>by have h1:=own_in HO.out q hq; simp; omega)
   have HO2:=hid ho2
   have HU2:=hid hc2
   have HD2:=hid (HD.out.trans hT)
   clear hc2 hT ho2
   go_wp2_with (at_builtin; refine wpList_appi rfl _ _ 30 rfl w.heap.size 3 (.int .i64 0) 1 8 Tryz.underlying30 infoInt rfl (by decide) _ k _ rfl (HO2.out.alloc _) ⟨w2.heap.size,0,none⟩ 1 1 _ rfl rfl (one_new _ _ _) (one_one _) (by omega) (by decide) (by simp; omega) ?_)
   intro A3 c3 w3 ho3 hg3 li3
   have hg:=grown_alloc hg3
   have z3:=hg.size
   have hlo:∀ q,(Value.slice A' k c').ownBlock=some q→w.heap.size≤q:=fun q hq=>(own_in HO2.out q hq).1
   have hc3:=HU2.out.grown hg (fun q hq=>by have h1:=hlo q hq; omega)
   have ht3:=HD2.out.grown hg hlo
   rw [←ints_snoc] at ho3
   have HO3:=hid ho3
   have HU3:=hid hc3
   have HD3:=hid ht3
   clear hg hg3 li3 hlo ho3 hc3 ht3
   go_wp2
   go_roundw
   case rel=>exact ⟨k + 1,xs ++ [r],A3,c3,by omega,by go_num,by rw [List.length_append,HL.out]; rfl,rfl,mem_snoc HS.out ⟨hr0,hr1⟩,HO3.out,HU3.out,HD3.out⟩
   case measure=>simp [intOf]; omega
  ·obtain rfl:k=n:=by omega
   go_wp2
   go_ret
   exact ⟨xs,A',c',⟨HL.out,HS.out⟩,rfl,HO.out,HU.out,HD.out⟩
set_option maxRecDepth 100000 in
set_option maxHeartbeats 800000 in
theorem tape_any (p:Nat) (A:Option Addr) (c:Nat) (bs:List Int) (w:World) (hc:Cur w p A bs.length c) (hb:Bytes w p A bs) :
  Calls Tryz.prog 39 #[.pointer (some ⟨p,0,none⟩)] w fun e w'=>∃ (s a:Int),e=.returned (.agg #[.int .i64 s,.int .i64 a])∧(tapeOkB s a=true∧a≤50)∧Cur w' p A bs.length c∧Touch [p] w w':=by
 obtain ⟨i0,h0,hcu,cu_i0,cu_i1⟩:=hc
 have hp:=hcu.lt
 have bc_s:=hid hb.small
 have bc_l:=hid hb.len
 have HBY:=hb.cells
 clear hb
 go_enter Tryz.func39,Tryz.ntmps39
 have b_0:=(Below.refl 0 w)
 have s_0:=b_0.size
 have T_0:=Touch.refl [p] w
 have bc_0:=HBY
 clear HBY
 have cu_0:=hcu
 clear hcu
 have cu_lt:=cu_0.lt
 have cell_cu:=cu_0.cell
 have froz_cu:=cu_0.frozen
 have lt_cu:=cu_0.lt
 go_wp2_with fail
 refine calls_forget1 (W:=w) (b0:=w.heap.size) (t0:=27) (c0:=#[.int .i64 0,.int .i64 0]) ?_ ?_ ?_
 (focus exact blkcBy)
 (focus (exact belBy))
 intro X1 r_n hX1
 have sX1:=hX1.size
 have r_lt:=r_n.lt
 refine (word_any _ _ _ _ _ (show Cur _ _ _ _ _ from ⟨_,_,Blk.past hX1 cu_0,cu_i0,cu_i1⟩) ⟨cells_below bc_0 hX1 (by omega),bc_s.out,bc_l.out⟩).mono ?_
 clear cu_i0 cu_i1
 rintro e w1 ⟨s,rfl,hs,⟨i_1,h_1,cu_1,cu_i0,cu_i1⟩,hY1⟩
 have s1:=hY1.size
 have b_1:=below0_touch hY1 (b_0.trans (hX1.mono (by omega)))
 have T_1:=(T_0.trans (Touch.of_below hX1)).trans hY1
 have bc_1:=cells_touch hY1 (cells_below bc_0 hX1 (by omega)) (by omega) (by first | (simp; done) | (simp; omega))
 have r_1:=Blk.touch hY1 r_n (by first | (simp; done) | (simp; omega))
 clear T_0 bc_0 cu_0 b_0 cell_cu froz_cu lt_cu r_n hX1 hY1
 have cell_cu:=cu_1.cell
 have froz_cu:=cu_1.frozen
 have lt_cu:=cu_1.lt
 have cell_r:=r_1.cell
 have froz_r:=r_1.frozen
 have lt_r:=r_1.lt
 go_wp2_with fail
 refine calls_forget0 (W:=w1) ?_ ?_
 (focus (exact belBy))
 intro X2 hX2
 have sX2:=hX2.size
 refine (below_any 50 _ _ _ _ _ (by omega) (by omega) (show Cur _ _ _ _ _ from ⟨_,_,Blk.past hX2 cu_1,cu_i0,cu_i1⟩) ⟨cells_below bc_1 hX2 (by omega),bc_s.out,bc_l.out⟩).mono ?_
 clear cu_i0 cu_i1
 rintro e w2 ⟨a,rfl,a0,a1,⟨i_2,h_2,cu_2,cu_i0,cu_i1⟩,hY2⟩
 have s2:=hY2.size
 have b_2:=below0_touch hY2 (b_1.trans (hX2.mono (by omega)))
 have T_2:=(T_1.trans (Touch.of_below hX2)).trans hY2
 have bc_2:=cells_touch hY2 (cells_below bc_1 hX2 (by omega)) (by omega) (by first | (simp; done) | (simp; omega))
 have r_2:=Blk.touch hY2 (Blk.past hX2 r_1) (by first | (simp; done) | (simp; omega))
 clear T_1 bc_1 cu_1 r_1 b_1 cell_cu froz_cu lt_cu cell_r froz_r lt_r hX2 hY2
 have cell_cu:=cu_2.cell
 have froz_cu:=cu_2.frozen
 have lt_cu:=cu_2.lt
 have cell_r:=r_2.cell
 have froz_r:=r_2.frozen
 have lt_r:=r_2.lt
 go_wp2_with fail
 ((try simp only [Exit.inBlock,Exit.then]); apply bodyPost_ret0; focus ((try simp only [results,Tryz.results39]); (try go_simp); (try rfl)))
 refine ⟨s,a,rfl,⟨by unfold tapeOkB; rw [hs,inB_iff.2 ⟨a0,by omega⟩]; rfl,by omega⟩,?_,?_⟩
 ·exact ⟨_,_,Blk.touch (L:=[w.heap.size]) (((Touch.refl _ _).set_ _ _ (by simp)).set_ _ _ (by simp)) cu_2 (by simp; omega),cu_i0,cu_i1⟩
 ·have hT:=T_2
  exact (hT.set_new _ _ (by dsimp only; omega)).set_new _ _ (by dsimp only; omega)
open Go.RowKit
structure St where
 o:Int
 d:Int
 a:Int
 b:Int
 c:Int
 n:Int
def regB (x:Int):Bool:=inB x 0 7
def stmtB (s:St):Bool :=
 if s.o=1 then regB s.d && (s.a == 0 && (s.b == 0 && (s.c == 0 && inB s.n 0 15)))
 else if s.o=2 then regB s.d && (inB s.a 0 4 && (s.b == 0 && (s.c == 0 && inB s.n 0 3)))
 else if inB s.o 3 9 then regB s.d && (regB s.a && (regB s.b && (s.c == 0 && s.n == 0)))
 else if s.o=10 then regB s.d && (regB s.a && (regB s.b && (regB s.c && s.n == 0)))
 else if s.o=11 then s.d == 0 && (regB s.a && (s.b == 0 && (s.c == 0 && s.n == 0)))
 else if s.o=12 then s.d == 0 && (s.a == 0 && (s.b == 0 && (s.c == 0 && inB s.n 1 8)))
 else s.o == 13 && (s.d == 0 && (s.a == 0 && (s.b == 0 && (s.c == 0 && s.n == 0))))
theorem stmt_in {s:St} (h:stmtB s=true):(1≤s.o∧s.o≤13)∧(0≤s.d∧s.d≤7)∧(0≤s.a∧s.a≤7)∧(0≤s.b∧s.b≤7)∧(0≤s.c∧s.c≤7)∧(0≤s.n∧s.n≤15):=by
 unfold stmtB regB at h
 split at h
 ·simp only [Bool.and_eq_true,inB_iff,beq_iff_eq] at h; omega
 split at h
 ·simp only [Bool.and_eq_true,inB_iff,beq_iff_eq] at h; omega
 split at h
 ·next h3 =>
  have:=inB_iff.1 h3
  simp only [Bool.and_eq_true,inB_iff,beq_iff_eq] at h; omega
 split at h
 ·simp only [Bool.and_eq_true,inB_iff,beq_iff_eq] at h; omega
 split at h
 ·simp only [Bool.and_eq_true,inB_iff,beq_iff_eq] at h; omega
 split at h
 ·simp only [Bool.and_eq_true,inB_iff,beq_iff_eq] at h; omega
 ·simp only [Bool.and_eq_true,beq_iff_eq] at h; omega
theorem stmt_loop {s:St} (h:stmtB s=true) (ho:s.o=12):1≤s.n∧s.n≤8:=by
 unfold stmtB at h
 rw [if_neg (by omega),if_neg (by omega),if_neg (by rw [inB_iff]; omega),if_neg (by omega),if_neg (by omega),if_pos ho] at h
 simp only [Bool.and_eq_true,inB_iff,beq_iff_eq] at h
 omega
def flatS:List St→List Int
 | []=>[]
 | s :: r=>s.o :: s.d :: s.a :: s.b :: s.c :: s.n :: flatS r
theorem flatS_length:∀ L,(flatS L).length=L.length * 6
 | []=>rfl
 | s :: r=>by simp only [flatS,List.length_cons,flatS_length r]; omega
theorem flatS_append:∀ A B,flatS (A ++ B)=flatS A ++ flatS B
 | [],B=>rfl
 | s :: r,B=>by simp only [flatS,List.cons_append,flatS_append r B]
def sixS (s:St):List Int:=[s.o,s.d,s.a,s.b,s.c,s.n]
theorem flatS_snoc (L:List St) (s:St):flatS (L ++ [s])=flatS L ++ sixS s:=flatS_append L [s]
theorem flatS_at:∀ {L:List St} {k:Nat} {s:St},L[k]? = some s→∀ (j:Nat) (x:Int),(sixS s)[j]? = some x→(flatS L)[k * 6 + j]? = some x
 | t :: r,0,s,h,j,x,hx=>by
  injection h with h
  subst h
  have hj:j < 6:=(List.getElem?_eq_some_iff.1 hx).1
  rw [show 0 * 6 + j=j by omega]
  match j,hj with
  | 0,_=>exact hx
  | 1,_=>exact hx
  | 2,_=>exact hx
  | 3,_=>exact hx
  | 4,_=>exact hx
  | 5,_=>exact hx
 | t :: r,k + 1,s,h,j,x,hx=>by
  have ih:=flatS_at (L:=r) (k:=k) (by simpa using h) j x hx
  rw [show (k + 1) * 6 + j=(k * 6 + j) + 6 by omega]
  exact ih
theorem flatS_drop:∀ (L:List St) (k:Nat),(flatS L).drop (k * 6)=flatS (L.drop k)
 | L,0=>by simp
 | [],k + 1=>by simp [flatS]
 | t :: r,k + 1=>by
  rw [show (k + 1) * 6=k * 6 + 6 by omega,List.drop_succ_cons,←flatS_drop r k]
  rfl
theorem flatS_take:∀ (L:List St) (k:Nat),(flatS L).take (k * 6)=flatS (L.take k)
 | L,0=>by simp [flatS]
 | [],k + 1=>by simp [flatS]
 | t :: r,k + 1=>by
  rw [show (k + 1) * 6=k * 6 + 6 by omega,List.take_succ_cons,flatS,flatS,←flatS_take r k]
  rfl
def dep (s:St) (k:Int):Int:=if s.o=12 then k + 1 else if s.o=13 then k - 1 else k
def scanP:Int→List St→Bool
 | k,[]=>k == 0
 | k,s :: r=>stmtB s && (inB (dep s k) 0 3 && scanP (dep s k) r)
def progB (L:List St):Bool:=decide (L.length≤40) && scanP 0 L
inductive Tr where
 | nil:Tr
 | one (s:St) (r:Tr):Tr
 | loop (h:St) (b:Tr) (e:St) (r:Tr):Tr
def Tr.flat:Tr→List St
 | .nil=>[]
 | .one s r=>s :: r.flat
 | .loop h b e r=>h :: (b.flat ++ e :: r.flat)
def Tr.ok:Tr→Bool
 | .nil=>true
 | .one s r=>stmtB s && (!(s.o == 12) && (!(s.o == 13) && r.ok))
 | .loop h b e r=>stmtB h && (h.o == 12 && (b.ok && (stmtB e && (e.o == 13 && r.ok))))
def Tr.dp:Tr→Nat
 | .nil=>0
 | .one _ r=>r.dp
 | .loop _ b _ r=>max (b.dp + 1) r.dp
def Tr.sz:Tr→Nat
 | .nil=>0
 | .one _ r=>r.sz + 1
 | .loop _ b _ r=>b.sz + r.sz + 1
def repL (L:List St):Nat→List St
 | 0=>[]
 | n + 1=>repL L n ++ L
def Tr.unr:Tr→List St
 | .nil=>[]
 | .one s r=>s :: r.unr
 | .loop h b _ r=>repL b.unr h.n.toNat ++ r.unr
def Tr.us:Tr→Nat
 | .nil=>0
 | .one _ r=>1 + r.us
 | .loop h b _ r=>h.n.toNat * b.us + r.us
theorem repL_length (L:List St):∀ n,(repL L n).length=n * L.length
 | 0=>by simp [repL]
 | n + 1=>by rw [repL,List.length_append,repL_length L n,Nat.succ_mul]
theorem unr_length:∀ t:Tr,t.unr.length=t.us
 | .nil=>rfl
 | .one s r=>by simp only [Tr.unr,Tr.us,List.length_cons,unr_length r]; omega
 | .loop h b e r=>by rw [Tr.unr,Tr.us,List.length_append,repL_length,unr_length b,unr_length r]
theorem us_le:∀ t:Tr,t.ok=true→t.us≤t.flat.length * 8 ^ t.dp
 | .nil,_=>Nat.zero_le _
 | .one s r,h=>by
  simp only [Tr.ok,Bool.and_eq_true] at h
  have ih:=us_le r h.2.2.2
  have h8:1≤8 ^ r.dp:=Nat.pow_pos (by decide)
  simp only [Tr.us,Tr.flat,Tr.dp,List.length_cons,Nat.succ_mul]
  omega
 | .loop h b e r,ht=>by
  simp only [Tr.ok,Bool.and_eq_true,beq_iff_eq] at ht
  have ib:=us_le b ht.2.2.1
  have ir:=us_le r ht.2.2.2.2.2
  have hn:=stmt_loop ht.1 ht.2.1
  have h1:h.n.toNat * b.us≤8 * (b.flat.length * 8 ^ b.dp):=Nat.mul_le_mul (by omega) ib
  have h2:8 * (b.flat.length * 8 ^ b.dp)=b.flat.length * 8 ^ (b.dp + 1):=by rw [Nat.pow_succ]; ac_rfl
  have h3:b.flat.length * 8 ^ (b.dp + 1)≤b.flat.length * 8 ^ max (b.dp + 1) r.dp:=Nat.mul_le_mul_left _ (Nat.pow_le_pow_right (by decide) (by omega))
  have h4:r.flat.length * 8 ^ r.dp≤r.flat.length * 8 ^ max (b.dp + 1) r.dp:=Nat.mul_le_mul_left _ (Nat.pow_le_pow_right (by decide) (by omega))
  simp only [Tr.us,Tr.flat,Tr.dp,List.length_cons,List.length_append]
  generalize 8 ^ max (b.dp + 1) r.dp=M at h3 h4 ⊢
  have h5:(b.flat.length + (r.flat.length + 1) + 1) * M=b.flat.length * M + r.flat.length * M + 2 * M:=by rw [Nat.add_mul,Nat.add_mul,Nat.add_mul]; omega
  rw [h5]
  omega
def Tr.isNil:Tr→Bool
 | .nil=>true
 | _=>false
theorem nil_dp {t:Tr} (h:t.isNil=true):t.dp=0:=by cases t <;> first | rfl | cases h
def fitB (k:Nat) (t:Tr):Bool:=decide (k + t.dp≤3) || t.isNil
theorem fitB_iff {k:Nat} {t:Tr}:fitB k t=true↔k + t.dp≤3∨t.isNil=true:=by
 unfold fitB
 rw [Bool.or_eq_true,decide_eq_true_iff]
theorem scan_tree:∀ (t:Tr) (k:Nat) (R:List St),t.ok=true→scanP k (t.flat ++ R)=(fitB k t && scanP k R)
 | .nil,k,R,_=>by simp [Tr.flat,fitB,Tr.isNil]
 | .one s r,k,R,h=>by
  simp only [Tr.ok,Bool.and_eq_true,Bool.not_eq_true',beq_eq_false_iff_ne] at h
  obtain ⟨h1,h2,h3,h4⟩:=h
  have hd:dep s k=k:=by unfold dep; rw [if_neg h2,if_neg h3]
  simp only [Tr.flat,List.cons_append,scanP,hd,h1,Bool.true_and]
  rw [scan_tree r k R h4]
  have hn:=nil_dp (t:=r)
  have hdp:(Tr.one s r).dp=r.dp:=rfl
  have hni:(Tr.one s r).isNil=false:=rfl
  rw [Bool.eq_iff_iff,Bool.and_eq_true,Bool.and_eq_true,Bool.and_eq_true,fitB_iff,fitB_iff,inB_iff,hdp,hni]
  constructor
  ·rintro ⟨h5,h6 | h6,h7⟩
   ·exact ⟨.inl h6,h7⟩
   ·have:=hn h6
    exact ⟨.inl (by omega),h7⟩
  ·rintro ⟨h5 | h5,h7⟩
   ·exact ⟨by omega,.inl h5,h7⟩
   ·cases h5
 | .loop h b e r,k,R,ht=>by
  simp only [Tr.ok,Bool.and_eq_true,beq_iff_eq] at ht
  obtain ⟨h1,h2,h3,h4,h5,h6⟩:=ht
  have hd:dep h k=((k + 1:Nat):Int):=by unfold dep; rw [if_pos h2]; omega
  have he:dep e ((k + 1:Nat):Int)=k:=by unfold dep; rw [if_neg (by omega),if_pos h5]; omega
  have hst:scanP ((k + 1:Nat):Int) (e :: (r.flat ++ R))=(inB (k:Int) 0 3 && scanP k (r.flat ++ R)):=by rw [scanP,h4,he,Bool.true_and]
  rw [Tr.flat,List.cons_append,scanP,hd,h1,Bool.true_and,List.append_assoc,scan_tree b (k + 1) _ h3,List.cons_append,hst,scan_tree r k R h6]
  have hb0:=nil_dp (t:=b)
  have hr0:=nil_dp (t:=r)
  have hdp:(Tr.loop h b e r).dp=max (b.dp + 1) r.dp:=rfl
  have hni:(Tr.loop h b e r).isNil=false:=rfl
  rw [Bool.eq_iff_iff,Bool.and_eq_true,Bool.and_eq_true,Bool.and_eq_true,Bool.and_eq_true,Bool.and_eq_true,fitB_iff,fitB_iff,fitB_iff,inB_iff,inB_iff,hdp,hni]
  constructor
  ·rintro ⟨h7,h8,h9,h10,h11⟩
   refine ⟨.inl ?_,h11⟩
   have h12:b.dp + 1 + k≤3:=by
    rcases h8 with h8 | h8
    ·omega
    ·have:=hb0 h8; omega
   have h13:r.dp + k≤3:=by
    rcases h10 with h10 | h10
    ·omega
    ·have:=hr0 h10; omega
   omega
  ·rintro ⟨h7 | h7,h11⟩
   ·exact ⟨by omega,.inl (by omega),by omega,.inl (by omega),h11⟩
   ·cases h7
def Rest:Nat→List St→Prop
 | 0,L=>∃ t:Tr,t.ok=true∧L=t.flat
 | k + 1,L=>∃ (t:Tr) (e:St) (L':List St),t.ok=true∧stmtB e=true∧e.o=13∧L=t.flat ++ e :: L'∧Rest k L'
theorem scan_rest:∀ (L:List St) (k:Nat),scanP k L=true→Rest k L
 | [],k,h=>by
  simp only [scanP,beq_iff_eq] at h
  obtain rfl:k=0:=by omega
  exact ⟨.nil,rfl,rfl⟩
 | s :: r,k,h=>by
  simp only [scanP,Bool.and_eq_true,inB_iff] at h
  obtain ⟨h1,h2,h3⟩:=h
  by_cases ho:s.o=12
  ·have hd:dep s k=((k + 1:Nat):Int):=by unfold dep; rw [if_pos ho]; omega
   rw [hd] at h3
   obtain ⟨t,e,L',ht,hse,he,rfl,hr⟩:=scan_rest r (k + 1) h3
   cases k with
   | zero =>
    obtain ⟨t',ht',rfl⟩:=hr
    exact ⟨.loop s t e t',by simp [Tr.ok,h1,ho,ht,hse,he,ht'],rfl⟩
   | succ k =>
    obtain ⟨t',e',L'',ht',hse',he',rfl,hr'⟩:=hr
    exact ⟨.loop s t e t',e',L'',by simp [Tr.ok,h1,ho,ht,hse,he,ht'],hse',he',by simp [Tr.flat],hr'⟩
  ·by_cases ho2:s.o=13
   ·have hd:dep s k=(k:Int) - 1:=by unfold dep; rw [if_neg ho,if_pos ho2]
    rw [hd] at h2 h3
    cases k with
    | zero=>exact absurd h2.1 (by omega)
    | succ k =>
     rw [show ((k + 1:Nat):Int) - 1=(k:Int) by omega] at h3
     exact ⟨.nil,s,r,rfl,h1,ho2,rfl,scan_rest r k h3⟩
   ·have hd:dep s k=(k:Int):=by unfold dep; rw [if_neg ho,if_neg ho2]
    rw [hd] at h3
    have ih:=scan_rest r k h3
    cases k with
    | zero =>
     obtain ⟨t,ht,rfl⟩:=ih
     exact ⟨.one s t,by simp [Tr.ok,h1,ho,ho2,ht],rfl⟩
    | succ k =>
     obtain ⟨t,e,L',ht,hse,he,rfl,hr⟩:=ih
     exact ⟨.one s t,e,L',by simp [Tr.ok,h1,ho,ho2,ht],hse,he,rfl,hr⟩
theorem prog_tree {L:List St} (h:progB L=true):∃ t:Tr,L=t.flat∧t.ok=true∧t.dp≤3∧t.flat.length≤40:=by
 unfold progB at h
 rw [Bool.and_eq_true,decide_eq_true_eq] at h
 obtain ⟨t,ht,rfl⟩:=scan_rest L 0 h.2
 have h2:=scan_tree t 0 [] ht
 rw [List.append_nil] at h2
 have h3:=h2.symm.trans h.2
 rw [Bool.and_eq_true,fitB_iff] at h3
 refine ⟨t,rfl,ht,?_,h.1⟩
 rcases h3.1 with h4 | h4
 ·omega
 ·have:=nil_dp h4
  omega
theorem tree_prog {t:Tr} (h:t.ok=true) (hd:t.dp≤3) (hl:t.flat.length≤40):progB t.flat=true:=by
 unfold progB
 rw [Bool.and_eq_true,decide_eq_true_eq]
 refine ⟨hl,?_⟩
 have h2:=scan_tree t 0 [] h
 rw [List.append_nil] at h2
 have h3:fitB 0 t=true:=by unfold fitB; rw [decide_eq_true (by omega)]; rfl
 show scanP ((0:Nat):Int) t.flat=true
 rw [h2,h3]
 rfl
open Classical in
noncomputable def trOf (L:List St):Tr:=if h:progB L=true then Classical.choose (prog_tree h) else .nil
theorem trOf_ok {L:List St} (h:progB L=true):L=(trOf L).flat∧(trOf L).ok=true∧(trOf L).dp≤3∧(trOf L).flat.length≤40:=by
 unfold trOf
 rw [dif_pos h]
 exact Classical.choose_spec (prog_tree h)
noncomputable def uszI (L:List St):Int:=if progB L=true then ((trOf L).us:Int) else -1
noncomputable def unrB (L:List St):Bool:=progB L && decide ((trOf L).us≤120)
noncomputable def unrL (L:List St):List St:=if unrB L=true then (trOf L).unr else []
theorem unr_in:∀ (t:Tr),t.ok=true→∀ s∈t.unr,stmtB s=true∧s.o≠12∧s.o≠13
 | .nil,_,s,hs=>by simp [Tr.unr] at hs
 | .one x r,h,s,hs=>by
  simp only [Tr.ok,Bool.and_eq_true,Bool.not_eq_true',beq_eq_false_iff_ne] at h
  rw [Tr.unr,List.mem_cons] at hs
  rcases hs with rfl | hs
  ·exact ⟨h.1,h.2.1,h.2.2.1⟩
  ·exact unr_in r h.2.2.2 s hs
 | .loop x b e r,h,s,hs=>by
  simp only [Tr.ok,Bool.and_eq_true,beq_iff_eq] at h
  rw [Tr.unr,List.mem_append] at hs
  rcases hs with hs | hs
  ·have hrep:∀ n,s∈repL b.unr n→s∈b.unr:=fun n=>by
    induction n with
    | zero=>intro h0; simp [repL] at h0
    | succ n ih =>
     intro h0
     rw [repL,List.mem_append] at h0
     exact h0.elim ih id
   exact unr_in b h.2.2.1 s (hrep _ hs)
  ·exact unr_in r h.2.2.2.2.2 s hs
def mt:Int→List St→Nat
 | _,[]=>0
 | k,s :: r=>if s.o=12 then 1 + mt (k + 1) r else if s.o=13 then (if k - 1=0 then 0 else 1 + mt (k - 1) r) else 1 + mt k r
theorem mt_tree:∀ (t:Tr) (k:Int) (R:List St),t.ok=true→1≤k→mt k (t.flat ++ R)=t.flat.length + mt k R
 | .nil,k,R,_,_=>by simp [Tr.flat]
 | .one s r,k,R,h,hk=>by
  simp only [Tr.ok,Bool.and_eq_true,Bool.not_eq_true',beq_eq_false_iff_ne] at h
  rw [Tr.flat,List.cons_append,mt,if_neg h.2.1,if_neg h.2.2.1,mt_tree r k R h.2.2.2 hk,List.length_cons]
  omega
 | .loop x b e r,k,R,h,hk=>by
  simp only [Tr.ok,Bool.and_eq_true,beq_iff_eq] at h
  rw [Tr.flat,List.cons_append,List.append_assoc,mt,if_pos h.2.1,mt_tree b (k + 1) _ h.2.2.1 (by omega),List.cons_append,mt,if_neg (by omega),if_pos h.2.2.2.2.1,if_neg (by omega),
   show k + 1 - 1=k by omega,mt_tree r k R h.2.2.2.2.2 hk,List.length_cons,List.length_append,List.length_cons]
  omega
theorem mt_loop {x e:St} {b r:Tr} {R:List St} (h:(Tr.loop x b e r).ok=true):mt 0 ((Tr.loop x b e r).flat ++ R)=1 + b.flat.length:=by
 simp only [Tr.ok,Bool.and_eq_true,beq_iff_eq] at h
 rw [Tr.flat,List.cons_append,List.append_assoc,mt,if_pos h.2.1,show (0:Int) + 1=1 by omega,mt_tree b 1 _ h.2.2.1 (by omega),List.cons_append,mt,if_neg (by omega),if_pos h.2.2.2.2.1,if_pos (by omega)]
 omega
end Go.Proofs.YtihbaieiempjeaaGreat
