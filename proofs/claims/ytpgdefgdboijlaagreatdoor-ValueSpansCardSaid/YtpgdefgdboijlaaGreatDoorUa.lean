/- Texts: engineering texts, shown. Plain laws: what is written is read back. Small laws: the error of Parse, rows of three cells. The laws' helper: three texts are read. Printed by gen_ve.py. Numbers: powers with a negative exponent; powers in all. Printed by gen_no.py. -/
import Derived.Test.YtpgdefgdboijlaaGreatDoorTi
import Derived.Test.YtpgdefgdboijlaaGreatDoorTe
import Derived.Test.YtpgdefgdboijlaaGreatDoorNf
import Derived.Deep.RegionHeld3
import Derived.Deep.DeepCutAuto
import Derived.Deep.LoopGhost
import Derived.Deep.QuietTactic
import Derived.BigQuiet
import Derived.Test.YtpgdefgdboijlaaGreatDoorTg
import Derived.Test.YtpgdefgdboijlaaGreatDoorNh
set_option linter.unusedVariables false
set_option maxRecDepth 100000
set_option maxHeartbeats 16000000
namespace Go.Proofs.YtpgdefgdboijlaaGreatDoor
open Go.RowKit
theorem aC (w:World) (o:Obj):(w.alloc o).heap.size=w.heap.size+1:=by simp
theorem row2 {w W:World} {x y:Value} (h:Ext (w.alloc (.cells #[x,y] 117)) W):W.heap[w.heap.size]?=some (.cells #[x,y] 117 (0,0)):=
 (h.block _ (by simp)).trans (heap_alloc_new w _)
theorem az {W:World} {g:Nat} {x y:Value} {T:TypeId} (h:W.heap[g]?=some (.cells #[x,y] T (0,0))):W.cell? ⟨g,0,none⟩=some x∧W.cell? ⟨g,1,none⟩=some y∧W.frozen? ⟨g,0,none⟩=false∧W.frozen? ⟨g,1,none⟩=false:=by
 refine⟨?_,?_,?_,?_⟩ <;> simp [World.cell?,World.frozen?,h]
theorem ext_put2 {w W:World} {g:Nat} (h:Ext w W) (hg:w.heap.size≤g) (a b:Value):Ext w ((W.setCell ⟨g,0,none⟩ a).setCell ⟨g,1,none⟩ b):=
 (h.setCell hg _).setCell hg _
def ShowR (W2:World) (x:Rat) (gs gp:Nat) (pc:List UInt8 × Int) (wx:World):Prop:=
 ∃b A k c B l d,wx.heap[gs]?=some (.cells #[.bool b,.slice A k c,.slice B l d] 25 (0,0))∧Nm wx (.agg #[.bool b,.slice A k c,.slice B l d]) (absQ x)∧wx.heap[gp]?=some (.cells #[.string ⟨pc.1.toArray⟩,.int .i64 pc.2] 117 (0,0))∧Ext W2 wx∧W2.heap.size≤gs∧W2.heap.size≤gp∧gs≠gp
theorem heap4 (w:World) (o0 o1 o2 o3:Obj):((((w.alloc o0).alloc o1).alloc o2).alloc o3).drew.heap[w.heap.size]?=some o0∧((((w.alloc o0).alloc o1).alloc o2).alloc o3).drew.heap[w.heap.size+1]?=some o1∧((((w.alloc o0).alloc o1).alloc o2).alloc o3).drew.heap[w.heap.size+1+1]?=some o2∧((((w.alloc o0).alloc o1).alloc o2).alloc o3).drew.heap[w.heap.size+1+1+1]?=some o3:=by
 have s0:(w.alloc o0).heap.size=w.heap.size+1:=by simp
 have s1:((w.alloc o0).alloc o1).heap.size=w.heap.size+1+1:=by simp
 have s2:(((w.alloc o0).alloc o1).alloc o2).heap.size=w.heap.size+1+1+1:=by simp
 have h0:=heap_alloc_new w o0;have h1:=heap_alloc_new (w.alloc o0) o1;have h2:=heap_alloc_new ((w.alloc o0).alloc o1) o2;have h3:=heap_alloc_new (((w.alloc o0).alloc o1).alloc o2) o3;rw [s0] at h1;rw [s1] at h2;rw [s2] at h3;have e3:Ext (((w.alloc o0).alloc o1).alloc o2) ((((w.alloc o0).alloc o1).alloc o2).alloc o3).drew:=al (ab _ _) (ac _);have e2:Ext ((w.alloc o0).alloc o1) ((((w.alloc o0).alloc o1).alloc o2).alloc o3).drew:=al (ab _ _) e3;have e1:Ext (w.alloc o0) ((((w.alloc o0).alloc o1).alloc o2).alloc o3).drew:=al (ab _ _) e2;exact⟨(e1.block _ (by omega)).trans h0,(e2.block _ (by omega)).trans h1,(e3.block _ (by omega)).trans h2,h3⟩
theorem abs_nm {w:World} {b:Bool} {vn vd:Value} {x:Rat} (h:Nm w (.agg #[.bool b,vn,vd]) x):Nm w (.agg #[.bool false,vn,vd]) (absQ x):=by
 obtain⟨vn',vd',e,h1,h2⟩:=h
 simp only [Value.agg.injEq,Array.mk.injEq,List.cons.injEq,Value.bool.injEq,and_true] at e
 obtain⟨-,rfl,rfl⟩:=e;unfold absQ
 split
 ·rename_i h
  exact Nm.flip h1 h2 (by rw [Rat.neg_num];symm;rw [decide_eq_false_iff_not];omega)
 ·rename_i h
  exact Nm.same h1 h2 (by symm;rw [decide_eq_false_iff_not];exact h)
theorem abs_x (b1:Bool) (A B:Option Addr) (k ca l cb:Nat) (w:World):Calls Tryz.prog 64 #[.agg #[.bool b1,.slice A k ca,.slice B l cb]] w fun e w'=>e=.returned (.agg #[.bool false,.slice A k ca,.slice B l cb])∧w'=(w.alloc (.cells #[.bool b1,.slice A k ca,.slice B l cb] 25)).alloc (.cells #[.bool false,.slice A k ca,.slice B l cb] 25):=by
 go_enter Tryz.func64,Tryz.ntmps64
 go_wp2_with fail;refine bodyPost_ret (v:=.agg #[.bool false,.slice A k ca,.slice B l cb]) (by simp [results,Tryz.f64];go_simp) rfl ?_
 exact⟨rfl,rfl⟩
def pickP (sz:Rat) (p:List UInt8 × Int):List (List UInt8 × Int)→List UInt8 × Int
 | []=>p
 | q :: qs=>pickP sz (if 0≤cmpQ sz (tensQ 1 q.2) then q else p) qs
theorem pickP_step (sz:Rat) (p:List UInt8 × Int) (t:List UInt8) (k:Int) (qs:List (List UInt8 × Int)):pickP sz p ((t,k) :: qs)=pickP sz (if 0≤cmpQ sz (tensQ 1 k) then (t,k) else p) qs:=rfl
theorem bq_one:Bq 64 (1:Rat):=bq_int 1 (by decide) (by decide)
theorem Bq.abs {M:Nat} {x:Rat} (h:Bq M x):Bq M (absQ x):=by
 unfold absQ
 split
 ·exact h.neg
 ·exact h
theorem Wd.put2 {W:World} {v:Value} {n g:Nat} {s:ByteArray} {k:Int} {T:TypeId} (h:Wd W v n) (hg:W.heap[g]?=some (.cells #[.string s,.int .i64 k] T (0,0))) (a b:Value):Wd ((W.setCell ⟨g,0,none⟩ a).setCell ⟨g,1,none⟩ b) v n:=by
 obtain⟨A,cc,e,hc,hcl⟩:=h;refine⟨A,cc,e,hc,?_⟩
 rcases Nat.eq_zero_or_pos (dg n).length with h0|h0
 ·left;rw [List.length_eq_zero_iff.1 h0];rfl
 ·obtain⟨bl,o,hA,hce⟩:=hcl.at_ (by simpa using h0)
  right
  refine⟨bl,o,hA,fun j hj=>?_⟩;have hj':j<(dg n).length:=by simpa using hj
  have h1:=hce j hj
  have hne:bl≠g:=by
   intro hb;subst hb;rw [getD_map_u64 _ _ hj'] at h1
   simp only [World.cell?,hg] at h1
   rcases Nat.lt_or_ge (o+j) 2 with h3|h3
   ·rcases(show o+j=0∨o+j=1 by omega) with e|e <;> rw [e] at h1 <;> simp at h1
   ·rw [Array.getElem?_eq_none (by simpa using h3)] at h1
    simp at h1
  rw [←h1]
  apply World.cell?_of_block
  rw [Below.heap_setCell _ _ _ _ hne,Below.heap_setCell _ _ _ _ hne]
theorem Nm.put2 {W:World} {v:Value} {q:Rat} {g:Nat} {s:ByteArray} {k:Int} {T:TypeId} (h:Nm W v q) (hg:W.heap[g]?=some (.cells #[.string s,.int .i64 k] T (0,0))) (a b:Value):Nm ((W.setCell ⟨g,0,none⟩ a).setCell ⟨g,1,none⟩ b) v q:=by
 obtain⟨vn,vd,e,h1,h2⟩:=h;exact⟨vn,vd,e,h1.put2 hg _ _,h2.put2 hg _ _⟩
theorem put2_row {W:World} {g:Nat} {x y:Value} {T:TypeId} (h:W.heap[g]?=some (.cells #[x,y] T (0,0))) (a b:Value):((W.setCell ⟨g,0,none⟩ a).setCell ⟨g,1,none⟩ b).heap[g]?=some (.cells #[a,b] T (0,0)):=by
 simp [World.setCell,Array.getElem?_modify,h]
theorem put2_other {W:World} {g k:Nat} {o:Obj} (h:W.heap[k]?=some o) (hne:k≠g) (a b:Value):((W.setCell ⟨g,0,none⟩ a).setCell ⟨g,1,none⟩ b).heap[k]?=some o:=by
 rw [Below.heap_setCell _ _ _ _ hne,Below.heap_setCell _ _ _ _ hne];exact h
theorem pfx_at {w:World} (h:Pfx w) (c:Nat) (hc:c<9):∃(t:List UInt8) (k:Int),pfxs.drop (c+1)=(t,k) :: pfxs.drop (c+1+1)∧w.cell? ⟨0,2+c*2,none⟩=some (.string ⟨t.toArray⟩)∧w.cell? ⟨0,2+c*2+1,none⟩=some (.int .i64 k)∧-15≤k∧k≤12∧t.length≤1:=by
 have hp:=h.cells;obtain⟨-,-,c2,c3,c4,c5,c6,c7,c8,c9,c10,c11,c12,c13,c14,c15,c16,c17,c18,c19⟩:=hp
 rcases(show c=0∨c=1∨c=2∨c=3∨c=4∨c=5∨c=6∨c=7∨c=8 by omega) with rfl|rfl|rfl|rfl|rfl|rfl|rfl|rfl|rfl
 ·exact⟨_,_,rfl,c2,c3,by omega,by omega,by decide⟩
 ·exact⟨_,_,rfl,c4,c5,by omega,by omega,by decide⟩
 ·exact⟨_,_,rfl,c6,c7,by omega,by omega,by decide⟩
 ·exact⟨_,_,rfl,c8,c9,by omega,by omega,by decide⟩
 ·exact⟨_,_,rfl,c10,c11,by omega,by omega,by decide⟩
 ·exact⟨_,_,rfl,c12,c13,by omega,by omega,by decide⟩
 ·exact⟨_,_,rfl,c14,c15,by omega,by omega,by decide⟩
 ·exact⟨_,_,rfl,c16,c17,by omega,by omega,by decide⟩
 ·exact⟨_,_,rfl,c18,c19,by omega,by omega,by decide⟩
theorem ret_s {a b:List UInt8} (h:a=b):Ending.returned (.string ⟨a.toArray⟩)=.returned (.string ⟨b.toArray⟩):=by rw [h]
theorem Nm.len {w:World} {b:Bool} {A B:Option Addr} {k c l d:Nat} {q:Rat} (h:Nm w (.agg #[.bool b,.slice A k c,.slice B l d]) q):(l=0↔q.den=1)∧Wd w (.slice A k c) q.num.natAbs:=by
 obtain⟨A',k',c',B',l',d',e,h1,h2,-,h4⟩:=h.form
 simp only [Value.agg.injEq,Array.mk.injEq,List.cons.injEq,Value.bool.injEq,Value.slice.injEq,and_true] at e
 obtain⟨-,⟨rfl,rfl,rfl⟩,⟨rfl,rfl,rfl⟩⟩:=e;exact⟨h4,h1⟩
theorem put3_row {W:World} {g:Nat} {x y z:Value} {T:TypeId} (h:W.heap[g]?=some (.cells #[x,y,z] T (0,0))) (a b c:Value):(((W.setCell ⟨g,0,none⟩ a).setCell ⟨g,1,none⟩ b).setCell ⟨g,2,none⟩ c).heap[g]?=some (.cells #[a,b,c] T (0,0)):=by
 simp [World.setCell,Array.getElem?_modify,h]
theorem Nm.put3' {W:World} {v:Value} {q:Rat} {g:Nat} {b0:Bool} {A0 B0:Option Addr} {k0 c0 k1 c1:Nat} {T:TypeId} (h:Nm W v q) (hg:W.heap[g]?=some (.cells #[.bool b0,.slice A0 k0 c0,.slice B0 k1 c1] T (0,0))) (a b c:Value):Nm (((W.setCell ⟨g,0,none⟩ a).setCell ⟨g,1,none⟩ b).setCell ⟨g,2,none⟩ c) v q:=by
 obtain⟨vn,vd,e,h1,h2⟩:=h;exact⟨vn,vd,e,h1.put3 hg _ _ _,h2.put3 hg _ _ _⟩
def pointL:Nat→Rat→Nat→Rat × Nat
 | 0,m,b=>(m,b)
 | f+1,m,b=>if m.den=1 then (m,b) else pointL f (tensQ m 1) (b+1)
theorem pointL_one (f:Nat) (m:Rat) (b:Nat) (h:m.den=1):pointL f m b=(m,b):=by
 cases f with
 | zero=>rfl
 | succ f=>rw [pointL,if_pos h]
theorem pointL_more (f:Nat) (m:Rat) (b:Nat) (h:¬ m.den=1):pointL (f+1) m b=pointL f (tensQ m 1) (b+1):=by rw [pointL,if_neg h]
def padS (b:Nat) (s:List UInt8):List UInt8:=List.replicate (b+1 - s.length) 48 ++ s
def showS (x:Rat):List UInt8:=
 if x=0 then [48] else
 let p:=pickP (absQ x) ([102],-15) pfxs.tail
 let r:=pointL 12 (tensQ (absQ x) (-p.2)) 0
 let s:=padS r.2 (Lib.decDigits r.1.num.natAbs)
 if ¬ r.1.den=1∨400<s.length then txt x
 else (if x.num<0 then [45] else []) ++ (if 0<r.2 then s.take (s.length - r.2) ++ 46 :: s.drop (s.length - r.2) else s) ++ p.1
theorem show_text {x m0 mm:Rat} {bh:Nat} {tp:List UInt8} {kp:Int} {ds ps:List UInt8} (h0:x≠0) (hp:(tp,kp)=pickP (absQ x) ([102],-15) pfxs.tail) (hm:m0=tensQ (absQ x) (-kp)) (hs:pointL 12 m0 0=(mm,bh)) (hd:ds=Lib.decDigits mm.num.natAbs) (hps:ps=padS bh ds) (h:¬ mm.den=1∨400<ps.length):txt x=showS x:=by
 unfold showS;rw [if_neg h0,←hp]
 dsimp only
 rw [←hm,hs]
 dsimp only
 rw [←hd,←hps,if_pos h]
theorem show_short {x m0 mm:Rat} {bh:Nat} {tp:List UInt8} {kp:Int} {ds ps:List UInt8} (b:Bool) (rs:List UInt8) (h0:x≠0) (hp:(tp,kp)=pickP (absQ x) ([102],-15) pfxs.tail) (hm:m0=tensQ (absQ x) (-kp)) (hs:pointL 12 m0 0=(mm,bh)) (hd:ds=Lib.decDigits mm.num.natAbs) (hps:ps=padS bh ds) (h1:mm.den=1) (h2:ps.length≤400) (hb:decide (x.num<0)=b) (hr:(if 0<bh then ps.take (ps.length - bh) ++ 46 :: ps.drop (ps.length - bh) else ps)=rs):showS x=(if b=true then [45] else []) ++ rs ++ tp:=by
 unfold showS;rw [if_neg h0,←hp]
 dsimp only
 rw [←hm,hs]
 dsimp only
 rw [←hd,←hps,if_neg (by simp [h1];omega),hr,←hb]
 simp
theorem show_zero (vx:Value) (w:World) (hx:Nm w vx 0):Calls Tryz.prog 27 #[vx] w fun e w'=>e=.returned (.string ⟨#[48]⟩)∧Ext w w':=by
 have Hx:=ZZ hx;obtain⟨A,k,ca,B,l,cb,rfl,-,-,-,-⟩:=hx.form;clear hx;generalize decide ((0:Rat).num<0)=b1 at *
 go_enter Tryz.func27,Tryz.ntmps27
 go_wp2_with fail;refine(sign_q' _ _ _ 0 rfl (Hx.out.mono (ab _ _))).mono ?_
 rintro e w1 ⟨rfl,k1⟩;have K1:=ZZ k1;clear k1;go_wp2_with fail;go_ret;exact⟨rfl,al (ab _ _) K1.out⟩
theorem show_main (M:Nat) (hM:M≤1073741824) (vx:Value) (x:Rat) (w:World) (hx:Nm w vx x) (bx:Bq M x) (h0:x≠0) (hpf:Pfx w) (htab:Tens w):Calls Tryz.prog 27 #[vx] w fun e w'=>e=.returned (.string ⟨(showS x).toArray⟩)∧Ext w w':=by
 have HPF:=ZZ hpf;have HTB:=ZZ htab;have BX:=ZZ bx;have HM:=ZZ hM;have BA:=ZZ bx.abs;obtain⟨s,hs⟩:∃s,x.num.sign=s:=⟨_,rfl⟩
 have hs0:(s == 0)=false:=by
  rw [beq_eq_false_iff_ne,←hs];intro e;exact h0 (Rat.num_eq_zero.1 (Int.sign_eq_zero_iff_zero.1 e))
 have HSG:=ZZ hs;have H0:=ZZ h0;clear hpf htab bx hM hs h0;obtain⟨A,k,ca,B,l,cb,rfl,hxn,hxd,hkx,hlx⟩:=hx.form;have Hx:=ZZ hx;have Hxn:=ZZ hxn;clear hx hxn hxd hkx hlx;generalize hbx:decide (x.num<0)=b1 at *;have Hbx:=ZZ hbx;clear hbx;obtain⟨hS,-,hw1,-⟩:=setup1 w (.bool b1) (.slice A k ca) (.slice B l cb);have HS:=ZZ hS;have hww:=ZZ hw1;clear hS hw1
 go_enter Tryz.func27,Tryz.ntmps27
 go_wp2_with fail;generalize World.alloc w (.cells #[.bool b1,.slice A k ca,.slice B l cb] _)=W2 at *
 generalize w.heap.size=g0 at *;refine(sign_q' _ _ _ s HSG.out (Hx.out.mono hww.out)).mono ?_;rintro e w1 ⟨rfl,k1⟩;obtain⟨r0,r1,r2⟩:=HS.out _ k1;have K1:=ZZ k1;clear k1
 go_upto_region 3 with (fail)
 have hpf2:=(HPF.out.mono (al hww.out K1.out)).cells
 go_cut [3,4] (fun p q wx=>∃gs gp:Nat,p=.pointer (some ⟨gs,0,none⟩)∧q=.pointer (some ⟨gp,0,none⟩)∧ShowR W2 x gs gp ([102],-15) wx)
 case first=>
  have hx0:=K1;have hz1:=ZZ (show W2.heap.size≤w1.heap.size from K1.out.size);have hz3:=ZZ (show W2.heap.size≤w1.heap.size+1+1 from Nat.le_succ_of_le (Nat.le_succ_of_le K1.out.size));have hz4:=ZZ (show W2.heap.size≤w1.heap.size+1+1+1 from Nat.le_succ_of_le (Nat.le_succ_of_le (Nat.le_succ_of_le K1.out.size)));have hz2:=ZZ (show W2.heap.size≤w1.heap.size+1 from Nat.le_succ_of_le K1.out.size);have e1:=ZZ (ac w1);have hx1:=ZZ (al hx0.out e1.out);have hS0:w1.cell? ⟨g0,0,none⟩=some (.bool b1)∧w1.cell? ⟨g0,1,none⟩=some (.slice A k ca)∧w1.cell? ⟨g0,2,none⟩=some (.slice B l cb)∧w1.cell? ⟨0,0,none⟩=some (.string ⟨#[102]⟩)∧w1.cell? ⟨0,1,none⟩=some (.int .i64 (-15)):=⟨r0,r1,r2,hpf2.1,hpf2.2.1⟩
  have HK:=ZZ (show ∀W,Ext W2 W→W.cell? ⟨g0,0,none⟩=some (.bool b1)∧W.cell? ⟨g0,1,none⟩=some (.slice A k ca)∧W.cell? ⟨g0,2,none⟩=some (.slice B l cb)∧W.cell? ⟨0,0,none⟩=some (.string ⟨#[102]⟩)∧W.cell? ⟨0,1,none⟩=some (.int .i64 (-15)) from fun W h=>by
   obtain⟨a,b,c⟩:=HS.out W h;have hp:=(HPF.out.mono (al hww.out h)).cells;exact⟨a,b,c,hp.1,hp.2.1⟩)
  clear hpf2 r0 r1 r2
  go_region_held3 (fun W=>W.cell? ⟨g0,0,none⟩=some (.bool b1)∧W.cell? ⟨g0,1,none⟩=some (.slice A k ca)∧W.cell? ⟨g0,2,none⟩=some (.slice B l cb)∧W.cell? ⟨0,0,none⟩=some (.string ⟨#[102]⟩)∧W.cell? ⟨0,1,none⟩=some (.int .i64 (-15))) ((refine HK.out _ ?_;(repeat (with_reducible first|exact hx0.out|refine al ?_ (ab _ _)|refine al ?_ (ac _)|refine ao ?_ hz1.out _ _ _|refine ext_put2 ?_ hz1.out _ _|refine ao ?_ hz2.out _ _ _|refine ext_put2 ?_ hz2.out _ _|refine ao ?_ hz3.out _ _ _|refine ext_put2 ?_ hz3.out _ _|refine ao ?_ hz4.out _ _ _|refine ext_put2 ?_ hz4.out _ _));done)) ((go_at_call 64;refine(abs_x _ _ _ _ _ _ _ _).mono ?_;rintro e w2 ⟨rfl,rfl⟩))
  all_goals
   go_wp2_with fail;go_meet
   refine⟨_,_,rfl,rfl,⟨false,A,k,ca,B,l,cb,?_,?_,?_,?_,?_,?_,?_⟩⟩
   ·first|with_reducible exact(heap4 _ _ _ _ _).1|with_reducible exact(heap4 _ _ _ _ _).2.1|with_reducible exact(heap4 _ _ _ _ _).2.2.1|with_reducible exact(heap4 _ _ _ _ _).2.2.2
   ·refine(abs_nm (Hx.out.mono (al hww.out hx0.out))).mono ?_
    repeat (with_reducible first|exact ad _|refine al ?_ (ab _ _)|refine al ?_ (ac _))
   ·first|with_reducible exact(heap4 _ _ _ _ _).1|with_reducible exact(heap4 _ _ _ _ _).2.1|with_reducible exact(heap4 _ _ _ _ _).2.2.1|with_reducible exact(heap4 _ _ _ _ _).2.2.2
   ·repeat (with_reducible first|exact hx0.out|refine al ?_ (ab _ _)|refine al ?_ (ac _))
   ·first|exact hz1.out|exact hz2.out|exact hz3.out|exact hz4.out
   ·first|exact hz1.out|exact hz2.out|exact hz3.out|exact hz4.out
   ·omega
 case rest=>
  obtain⟨gs,gp,rfl,rfl,hsh⟩:=hcut;have HSH:=ZZ hsh;clear hsh;go_wp2_with fail
  go_loopg [20] 9 (fun k i wr=>∃(c:Nat) (pc:List UInt8 × Int),c+k=9∧i=.int .i64 (c:Int)∧Hid (pickP (absQ x) pc (pfxs.drop (c+1))=pickP (absQ x) ([102],-15) pfxs.tail)∧Hid (-15≤pc.2∧pc.2≤12∧pc.1.length≤1)∧ShowR W2 x gs gp pc wr)
  case atStart=>exact⟨0,_,rfl,rfl,rfl,⟨by omega,by omega,by decide⟩,HSH.out⟩
  case round=>
   obtain⟨c,pc,hc,rfl,HPK,HPB,hsh⟩:=hrel
   rcases Nat.eq_zero_or_pos gk with hz|hz
   ·subst hz
    obtain rfl:c=9:=by omega
    obtain⟨bb,A3,k3,c3,B3,l3,d3,hrs,hnm,hrp,hex,hb1,hb2,hne⟩:=hsh;obtain⟨tp,kp⟩:=pc;have HPC:=ZZ (show (tp,kp)=pickP (absQ x) ([102],-15) pfxs.tail from HPK.out);obtain⟨hk1,hk2,hk3⟩:=HPB.out
    dsimp only at hk1 hk2 hk3
    obtain⟨o0,o1,o2,-⟩:=ai hrs;obtain⟨p0,p1,-⟩:=az hrp;have HRP:=ZZ hrp;have HNM:=ZZ hnm;have HEX:=ZZ hex;have HKA:=ZZ (show (-kp).natAbs≤1073741824 by omega);have HK3:=ZZ hk3;obtain⟨m0,hm0⟩:∃m0,m0=tensQ (absQ x) (-kp):=⟨_,rfl⟩;have BM0:=ZZ (show Bq (M+61) m0 by rw [hm0];exact BA.out.tens.mono (by omega));have HM0:=ZZ hm0;have u1:IntKind.i64.wrap (-kp) = -kp:=IntWalk.i64_in _ (by omega);clear hrs hnm hrp hex hb1 hb2 hne hm0 hc hk3 HPK HPB;go_wp2_with fail;refine(tens_q M (Nat.le_trans HM.out (by decide)) (-kp) HKA.out _ _ _ HNM.out BA.out).mono ?_;rintro e w4 ⟨v4,rfl,h4,k4⟩;obtain⟨b4,P4,p4,c4,Q4,q4,d4,rfl⟩:=h4.form2;rw [←HM0.out] at h4;have H4:=ZZ h4;have K4:=ZZ k4;clear h4 k4 u1 hk1 hk2;go_wp2_with fail
    go_loopg [8] 12 (fun k b wz=>∃(bh:Nat) (mm:Rat),bh+k=12∧b=.int .i64 (bh:Int)∧Hid (pointL k mm bh=pointL 12 m0 0)∧Bq (M+61+5*bh) mm∧∃b A k c B l d,wz.heap[w4.heap.size]?=some (.cells #[.bool b,.slice A k c,.slice B l d] 25 (0,0))∧Nm wz (.agg #[.bool b,.slice A k c,.slice B l d]) mm∧Ext w4 wz)
    case atStart=>exact⟨0,m0,rfl,rfl,rfl,BM0.out,b4,P4,p4,c4,Q4,q4,d4,heap_alloc_new _ _,H4.out.mono (ab _ _),ab _ _⟩
    case round=>
     obtain⟨bh,mm,hbk,rfl,HPL,hbm,b5,A5,k5,c5,B5,l5,d5,hrm,hnm5,hex5⟩:=hrel;obtain⟨n0,n1,n2,nf0,nf1,nf2⟩:=ai hrm;have HRM:=ZZ hrm;have HN5:=ZZ hnm5;have HX5:=ZZ hex5;have HBM:=ZZ hbm;have HLN:=ZZ hnm5.len;have hb12:(bh:Int)≤12:=by omega
     have HBK:=ZZ hbk;clear hrm hnm5 hex5 hbm
     rcases Nat.eq_zero_or_pos l5 with hl0|hl0
     ·have HDN:=ZZ (HLN.out.1.1 hl0)
      subst hl0;have HPV:=ZZ (pointL_one gk mm bh HDN.out);have SZ:=ZZ (show pointL 12 m0 0=(mm,bh) from HPL.out.symm.trans HPV.out);have KW:=ZZ (al hww.out (al HEX.out (al K4.out HX5.out)));have K2:=ZZ (al HEX.out (al K4.out HX5.out));go_wp2_with fail;refine(row_c (M+61+5*bh) (by have:=HM.out;omega) _ _ _ HLN.out.2 HBM.out.1 (HTB.out.mono KW.out)).mono ?_;rintro e w6 ⟨rfl,k6⟩;have hdl:=dec_len HBM.out.1;obtain⟨ds,hds⟩:∃ds,ds=Lib.decDigits mm.num.natAbs:=⟨_,rfl⟩;rw [←hds] at hdl ⊢;have HDS:=ZZ hds;have K6:=ZZ k6;have hM:=HM.out;have hdl2:(ds.length:Int)≤1073742000:=by omega
      obtain⟨n0',n1',n2',-⟩:=ai ((k6.block _ (lt_of_block HRM.out)).trans HRM.out);clear hds k6 hdl hM
      rcases(show bh+1≤ds.length∨ds.length<bh+1 by omega) with hn|hn
      ·have hps:padS bh ds=ds:=by unfold padS;rw [Nat.sub_eq_zero_of_le hn];rfl
       have t9:¬(0:Int)<(bh:Int)+1 - (ds.length:Int):=by omega
       obtain⟨ps,hpe⟩:∃ps,ps=padS bh ds:=⟨_,rfl⟩;have HPS:=ZZ (show ps=padS bh ds from hpe);obtain rfl:ps=ds:=hpe.trans hps;have K7:=ZZ K6.out;have hpl:bh+1≤ps.length:=hn;clear hps hpe hn;have HPL2:=ZZ hpl;obtain⟨r0,r1,r2⟩:=HS.out _ (al K2.out K7.out);have hgp:=(al K4.out (al HX5.out K7.out)).block gp (lt_of_block HRP.out) |>.trans HRP.out
       obtain⟨e0,e1,-⟩:=az hgp;clear hgp
       rcases(show 400<ps.length∨ps.length≤400 by omega) with hl|hl
       ·have t6:(400:Int)<(ps.length:Int):=by omega
        have HL:=ZZ hl;clear hl hpl;go_wp2_with fail;refine(text_c M (Nat.le_trans HM.out (by decide)) _ _ _ (Hx.out.mono (al hww.out (al K2.out K7.out))) BX.out (HTB.out.mono (al KW.out K7.out))).mono ?_;rintro e w8 ⟨rfl,k8⟩;have K8:=ZZ k8;clear k8;go_wp2_with fail;go_ret;refine⟨?_,al KW.out (al K7.out K8.out)⟩;rw [show_text H0.out HPC.out HM0.out SZ.out HDS.out HPS.out (.inr HL.out)];rfl
       ·have t6:¬(400:Int)<(ps.length:Int):=by omega
        have HL:=ZZ hl;have htl:=HK3.out
        rcases Nat.eq_zero_or_pos bh with hb0|hb0
        ·have HB0:=ZZ hb0
         have t7:¬(0:Int)<(bh:Int):=by omega
         clear hb0 hpl;have hrl:ps.length≤401:=by omega
         rcases hbb:b1 with _|_
         ·subst hbb
          have c2:ps.length+tp.length≤9223372036854775807:=by omega
          have e6:(⟨ps.toArray⟩:ByteArray) ++ ⟨tp.toArray⟩=⟨(ps ++ tp).toArray⟩:=str_append _ _;clear hrl htl;go_wp2_with fail;go_ret;refine⟨?_,al KW.out K7.out⟩;rw [show_short false ps H0.out HPC.out HM0.out SZ.out HDS.out HPS.out HDN.out HL.out Hbx.out (if_neg (by have:=HB0.out;omega))];first|rfl|exact ret_s (by simp)
         ·subst hbb
          have c1:1+ps.length≤9223372036854775807:=by omega
          have e5:(⟨#[45]⟩:ByteArray) ++ ⟨ps.toArray⟩=⟨(45 :: ps).toArray⟩:=str_append [45] ps;have c2:(45 :: ps).length+tp.length≤9223372036854775807:=by have q:(45 :: ps).length=(ps).length+1:=rfl;omega
          have e6:(⟨(45 :: ps).toArray⟩:ByteArray) ++ ⟨tp.toArray⟩=⟨((45 :: ps) ++ tp).toArray⟩:=str_append _ _;have c3:ps.length+1+tp.length≤9223372036854775807:=by omega
          clear hrl htl;go_wp2_with fail;go_ret;refine⟨?_,al KW.out K7.out⟩;rw [show_short true ps H0.out HPC.out HM0.out SZ.out HDS.out HPS.out HDN.out HL.out Hbx.out (if_neg (by have:=HB0.out;omega))];first|rfl|exact ret_s (by simp)
        ·have HB0:=ZZ hb0
         have t7:(0:Int)<(bh:Int):=by omega
         obtain⟨pp,hpp⟩:∃pp,pp=ps.length - bh:=⟨_,rfl⟩;have HPP:=ZZ hpp;have hsz:(ByteArray.mk ps.toArray).size=ps.length:=rfl;have u3:IntKind.i64.wrap ((ps.length:Int) - (bh:Int))=(pp:Int):=(IntWalk.i64_in _ (by omega)).trans (by omega);have x1:(⟨ps.toArray⟩:ByteArray).extract 0 pp=⟨(ps.take pp).toArray⟩:=by apply ByteArray.ext;simp
         have x2:(⟨ps.toArray⟩:ByteArray).extract pp ps.length=⟨(ps.drop pp).toArray⟩:=by apply ByteArray.ext;simp;exact List.take_of_length_le (by simp)
         have g1:(0:Int)≤(pp:Int):=by omega
         have g2:(pp:Int)≤(ps.length:Int):=by omega
         have c4:(ps.take pp).length+1≤9223372036854775807:=by rw [List.length_take];omega
         have e3:(⟨(ps.take pp).toArray⟩:ByteArray) ++ ⟨#[46]⟩=⟨(ps.take pp ++ [46]).toArray⟩:=str_append _ [46];have c5:(ps.take pp ++ [46]).length+(ps.drop pp).length≤9223372036854775807:=by simp;omega
         have e4:(⟨(ps.take pp ++ [46]).toArray⟩:ByteArray) ++ ⟨(ps.drop pp).toArray⟩=⟨(ps.take pp ++ 46 :: ps.drop pp).toArray⟩:=by rw [str_append];simp
         have hrq:(ps.take pp ++ 46 :: ps.drop pp).length=ps.length+1:=by simp;omega
         clear hpp hb0;go_wp2_with fail
         go_quiet (fail)
         have hrl:(ps.take pp ++ 46 :: ps.drop pp).length≤401:=by rw [hrq];omega
         rcases hbb:b1 with _|_
         ·subst hbb
          have c2:(ps.take pp ++ 46 :: ps.drop pp).length+tp.length≤9223372036854775807:=by omega
          have e6:(⟨(ps.take pp ++ 46 :: ps.drop pp).toArray⟩:ByteArray) ++ ⟨tp.toArray⟩=⟨((ps.take pp ++ 46 :: ps.drop pp) ++ tp).toArray⟩:=str_append _ _;clear hrl htl;go_wp2_with fail;go_ret;refine⟨?_,al KW.out (al K7.out (aA _ _))⟩;rw [show_short false (ps.take pp ++ 46 :: ps.drop pp) H0.out HPC.out HM0.out SZ.out HDS.out HPS.out HDN.out HL.out Hbx.out (by rw [if_pos HB0.out,←HPP.out])];first|rfl|exact ret_s (by simp)
         ·subst hbb
          have c1:1+(ps.take pp ++ 46 :: ps.drop pp).length≤9223372036854775807:=by omega
          have e5:(⟨#[45]⟩:ByteArray) ++ ⟨(ps.take pp ++ 46 :: ps.drop pp).toArray⟩=⟨(45 :: (ps.take pp ++ 46 :: ps.drop pp)).toArray⟩:=str_append [45] (ps.take pp ++ 46 :: ps.drop pp);have c2:(45 :: (ps.take pp ++ 46 :: ps.drop pp)).length+tp.length≤9223372036854775807:=by have q:(45 :: (ps.take pp ++ 46 :: ps.drop pp)).length=((ps.take pp ++ 46 :: ps.drop pp)).length+1:=rfl;omega
          have e6:(⟨(45 :: (ps.take pp ++ 46 :: ps.drop pp)).toArray⟩:ByteArray) ++ ⟨tp.toArray⟩=⟨((45 :: (ps.take pp ++ 46 :: ps.drop pp)) ++ tp).toArray⟩:=str_append _ _;have c3:(ps.take pp ++ 46 :: ps.drop pp).length+1+tp.length≤9223372036854775807:=by omega
          clear hrl htl;go_wp2_with fail;go_ret;refine⟨?_,al KW.out (al K7.out (aA _ _))⟩;rw [show_short true (ps.take pp ++ 46 :: ps.drop pp) H0.out HPC.out HM0.out SZ.out HDS.out HPS.out HDN.out HL.out Hbx.out (by rw [if_pos HB0.out,←HPP.out])];first|rfl|exact ret_s (by simp)
      ·obtain⟨cc,hcc⟩:∃cc:Nat,cc=bh+1 - ds.length:=⟨_,rfl⟩
       have u8:(bh:Int)+1 - (ds.length:Int)=(cc:Int):=by omega
       have t9:(0:Int)<(cc:Int):=by omega
       have HCC:=ZZ hcc;have hcat:(Lib.repeatL [48] cc).length+ds.length≤9223372036854775807:=by rw [repL];simp;omega
       have hst:(⟨(Lib.repeatL [48] cc).toArray⟩:ByteArray) ++ ⟨ds.toArray⟩=⟨(padS bh ds).toArray⟩:=by rw [str_append,repL,HCC.out];rfl
       have hc13:=ZZ (show cc≤13 by omega);clear hcc hn;go_wp2_with fail;refine(Tryz.strings_Repeat ⟨#[48]⟩ cc w6 (by have:=hc13.out;omega) (by have:=hc13.out;show 1*cc≤_;omega)).mono ?_;rintro e w7 ⟨rfl,k7⟩;obtain⟨m0',m1',m2',-⟩:=ai ((k7.block _ (lt_of_block ((K6.out.block _ (lt_of_block HRM.out)).trans HRM.out))).trans ((K6.out.block _ (lt_of_block HRM.out)).trans HRM.out));have K7:=ZZ (al K6.out k7);obtain⟨ps,hpe⟩:∃ps,ps=padS bh ds:=⟨_,rfl⟩;have HPS:=ZZ hpe;have hpl:bh+1≤ps.length:=by rw [hpe];unfold padS;simp;omega
       rw [←hpe] at hst;clear k7 hpe u8 t9;have HPL2:=ZZ hpl;obtain⟨r0,r1,r2⟩:=HS.out _ (al K2.out K7.out);have hgp:=(al K4.out (al HX5.out K7.out)).block gp (lt_of_block HRP.out) |>.trans HRP.out
       obtain⟨e0,e1,-⟩:=az hgp;clear hgp
       rcases(show 400<ps.length∨ps.length≤400 by omega) with hl|hl
       ·have t6:(400:Int)<(ps.length:Int):=by omega
        have HL:=ZZ hl;clear hl hpl;go_wp2_with fail;refine(text_c M (Nat.le_trans HM.out (by decide)) _ _ _ (Hx.out.mono (al hww.out (al K2.out K7.out))) BX.out (HTB.out.mono (al KW.out K7.out))).mono ?_;rintro e w8 ⟨rfl,k8⟩;have K8:=ZZ k8;clear k8;go_wp2_with fail;go_ret;refine⟨?_,al KW.out (al K7.out K8.out)⟩;rw [show_text H0.out HPC.out HM0.out SZ.out HDS.out HPS.out (.inr HL.out)];rfl
       ·have t6:¬(400:Int)<(ps.length:Int):=by omega
        have HL:=ZZ hl;have htl:=HK3.out
        rcases Nat.eq_zero_or_pos bh with hb0|hb0
        ·have HB0:=ZZ hb0
         have t7:¬(0:Int)<(bh:Int):=by omega
         clear hb0 hpl;have hrl:ps.length≤401:=by omega
         rcases hbb:b1 with _|_
         ·subst hbb
          have c2:ps.length+tp.length≤9223372036854775807:=by omega
          have e6:(⟨ps.toArray⟩:ByteArray) ++ ⟨tp.toArray⟩=⟨(ps ++ tp).toArray⟩:=str_append _ _;clear hrl htl;go_wp2_with fail;go_ret;refine⟨?_,al KW.out K7.out⟩;rw [show_short false ps H0.out HPC.out HM0.out SZ.out HDS.out HPS.out HDN.out HL.out Hbx.out (if_neg (by have:=HB0.out;omega))];first|rfl|exact ret_s (by simp)
         ·subst hbb
          have c1:1+ps.length≤9223372036854775807:=by omega
          have e5:(⟨#[45]⟩:ByteArray) ++ ⟨ps.toArray⟩=⟨(45 :: ps).toArray⟩:=str_append [45] ps;have c2:(45 :: ps).length+tp.length≤9223372036854775807:=by have q:(45 :: ps).length=(ps).length+1:=rfl;omega
          have e6:(⟨(45 :: ps).toArray⟩:ByteArray) ++ ⟨tp.toArray⟩=⟨((45 :: ps) ++ tp).toArray⟩:=str_append _ _;have c3:ps.length+1+tp.length≤9223372036854775807:=by omega
          clear hrl htl;go_wp2_with fail;go_ret;refine⟨?_,al KW.out K7.out⟩;rw [show_short true ps H0.out HPC.out HM0.out SZ.out HDS.out HPS.out HDN.out HL.out Hbx.out (if_neg (by have:=HB0.out;omega))];first|rfl|exact ret_s (by simp)
        ·have HB0:=ZZ hb0
         have t7:(0:Int)<(bh:Int):=by omega
         obtain⟨pp,hpp⟩:∃pp,pp=ps.length - bh:=⟨_,rfl⟩;have HPP:=ZZ hpp;have hsz:(ByteArray.mk ps.toArray).size=ps.length:=rfl;have u3:IntKind.i64.wrap ((ps.length:Int) - (bh:Int))=(pp:Int):=(IntWalk.i64_in _ (by omega)).trans (by omega);have x1:(⟨ps.toArray⟩:ByteArray).extract 0 pp=⟨(ps.take pp).toArray⟩:=by apply ByteArray.ext;simp
         have x2:(⟨ps.toArray⟩:ByteArray).extract pp ps.length=⟨(ps.drop pp).toArray⟩:=by apply ByteArray.ext;simp;exact List.take_of_length_le (by simp)
         have g1:(0:Int)≤(pp:Int):=by omega
         have g2:(pp:Int)≤(ps.length:Int):=by omega
         have c4:(ps.take pp).length+1≤9223372036854775807:=by rw [List.length_take];omega
         have e3:(⟨(ps.take pp).toArray⟩:ByteArray) ++ ⟨#[46]⟩=⟨(ps.take pp ++ [46]).toArray⟩:=str_append _ [46];have c5:(ps.take pp ++ [46]).length+(ps.drop pp).length≤9223372036854775807:=by simp;omega
         have e4:(⟨(ps.take pp ++ [46]).toArray⟩:ByteArray) ++ ⟨(ps.drop pp).toArray⟩=⟨(ps.take pp ++ 46 :: ps.drop pp).toArray⟩:=by rw [str_append];simp
         have hrq:(ps.take pp ++ 46 :: ps.drop pp).length=ps.length+1:=by simp;omega
         clear hpp hb0;go_wp2_with fail
         go_quiet (fail)
         have hrl:(ps.take pp ++ 46 :: ps.drop pp).length≤401:=by rw [hrq];omega
         rcases hbb:b1 with _|_
         ·subst hbb
          have c2:(ps.take pp ++ 46 :: ps.drop pp).length+tp.length≤9223372036854775807:=by omega
          have e6:(⟨(ps.take pp ++ 46 :: ps.drop pp).toArray⟩:ByteArray) ++ ⟨tp.toArray⟩=⟨((ps.take pp ++ 46 :: ps.drop pp) ++ tp).toArray⟩:=str_append _ _;clear hrl htl;go_wp2_with fail;go_ret;refine⟨?_,al KW.out (al K7.out (aA _ _))⟩;rw [show_short false (ps.take pp ++ 46 :: ps.drop pp) H0.out HPC.out HM0.out SZ.out HDS.out HPS.out HDN.out HL.out Hbx.out (by rw [if_pos HB0.out,←HPP.out])];first|rfl|exact ret_s (by simp)
         ·subst hbb
          have c1:1+(ps.take pp ++ 46 :: ps.drop pp).length≤9223372036854775807:=by omega
          have e5:(⟨#[45]⟩:ByteArray) ++ ⟨(ps.take pp ++ 46 :: ps.drop pp).toArray⟩=⟨(45 :: (ps.take pp ++ 46 :: ps.drop pp)).toArray⟩:=str_append [45] (ps.take pp ++ 46 :: ps.drop pp);have c2:(45 :: (ps.take pp ++ 46 :: ps.drop pp)).length+tp.length≤9223372036854775807:=by have q:(45 :: (ps.take pp ++ 46 :: ps.drop pp)).length=((ps.take pp ++ 46 :: ps.drop pp)).length+1:=rfl;omega
          have e6:(⟨(45 :: (ps.take pp ++ 46 :: ps.drop pp)).toArray⟩:ByteArray) ++ ⟨tp.toArray⟩=⟨((45 :: (ps.take pp ++ 46 :: ps.drop pp)) ++ tp).toArray⟩:=str_append _ _;have c3:(ps.take pp ++ 46 :: ps.drop pp).length+1+tp.length≤9223372036854775807:=by omega
          clear hrl htl;go_wp2_with fail;go_ret;refine⟨?_,al KW.out (al K7.out (aA _ _))⟩;rw [show_short true (ps.take pp ++ 46 :: ps.drop pp) H0.out HPC.out HM0.out SZ.out HDS.out HPS.out HDN.out HL.out Hbx.out (by rw [if_pos HB0.out,←HPP.out])];first|rfl|exact ret_s (by simp)
     ·have t5:(0:Int)<(l5:Int):=by omega
      have HDN:=ZZ (show ¬ mm.den=1 from fun h=>by have:=HLN.out.1.2 h;omega);clear hl0
      rcases Nat.eq_zero_or_pos gk with hz|hz
      ·subst hz
       have t6:¬(bh:Int)<12:=by omega
       have HPV:=ZZ (show pointL 0 mm bh=(mm,bh) from rfl);have SZ:=ZZ (show pointL 12 m0 0=(mm,bh) from HPL.out.symm.trans HPV.out);have KW:=ZZ (al hww.out (al HEX.out (al K4.out HX5.out)));have K2:=ZZ (al HEX.out (al K4.out HX5.out));go_wp2_with fail;refine(row_c (M+61+5*bh) (by have:=HM.out;omega) _ _ _ HLN.out.2 HBM.out.1 (HTB.out.mono KW.out)).mono ?_;rintro e w6 ⟨rfl,k6⟩;have hdl:=dec_len HBM.out.1;obtain⟨ds,hds⟩:∃ds,ds=Lib.decDigits mm.num.natAbs:=⟨_,rfl⟩;rw [←hds] at hdl ⊢;have HDS:=ZZ hds;have K6:=ZZ k6;have hM:=HM.out;have hdl2:(ds.length:Int)≤1073742000:=by omega
       obtain⟨n0',n1',n2',-⟩:=ai ((k6.block _ (lt_of_block HRM.out)).trans HRM.out);clear hds k6 hdl hM
       rcases(show bh+1≤ds.length∨ds.length<bh+1 by omega) with hn|hn
       ·have hps:padS bh ds=ds:=by unfold padS;rw [Nat.sub_eq_zero_of_le hn];rfl
        have t9:¬(0:Int)<(bh:Int)+1 - (ds.length:Int):=by omega
        obtain⟨ps,hpe⟩:∃ps,ps=padS bh ds:=⟨_,rfl⟩;have HPS:=ZZ (show ps=padS bh ds from hpe);obtain rfl:ps=ds:=hpe.trans hps;have K7:=ZZ K6.out;have hpl:bh+1≤ps.length:=hn;clear hps hpe hn;have HPL2:=ZZ hpl;obtain⟨r0,r1,r2⟩:=HS.out _ (al K2.out K7.out);have hgp:=(al K4.out (al HX5.out K7.out)).block gp (lt_of_block HRP.out) |>.trans HRP.out
        obtain⟨e0,e1,-⟩:=az hgp;clear hgp;go_wp2_with fail;refine(text_c M (Nat.le_trans HM.out (by decide)) _ _ _ (Hx.out.mono (al hww.out (al K2.out K7.out))) BX.out (HTB.out.mono (al KW.out K7.out))).mono ?_;rintro e w8 ⟨rfl,k8⟩;have K8:=ZZ k8;clear k8;go_wp2_with fail;go_ret;refine⟨?_,al KW.out (al K7.out K8.out)⟩;rw [show_text H0.out HPC.out HM0.out SZ.out HDS.out HPS.out (.inl HDN.out)];rfl
       ·obtain⟨cc,hcc⟩:∃cc:Nat,cc=bh+1 - ds.length:=⟨_,rfl⟩
        have u8:(bh:Int)+1 - (ds.length:Int)=(cc:Int):=by omega
        have t9:(0:Int)<(cc:Int):=by omega
        have HCC:=ZZ hcc;have hcat:(Lib.repeatL [48] cc).length+ds.length≤9223372036854775807:=by rw [repL];simp;omega
        have hst:(⟨(Lib.repeatL [48] cc).toArray⟩:ByteArray) ++ ⟨ds.toArray⟩=⟨(padS bh ds).toArray⟩:=by rw [str_append,repL,HCC.out];rfl
        have hc13:=ZZ (show cc≤13 by omega);clear hcc hn;go_wp2_with fail;refine(Tryz.strings_Repeat ⟨#[48]⟩ cc w6 (by have:=hc13.out;omega) (by have:=hc13.out;show 1*cc≤_;omega)).mono ?_;rintro e w7 ⟨rfl,k7⟩;obtain⟨m0',m1',m2',-⟩:=ai ((k7.block _ (lt_of_block ((K6.out.block _ (lt_of_block HRM.out)).trans HRM.out))).trans ((K6.out.block _ (lt_of_block HRM.out)).trans HRM.out));have K7:=ZZ (al K6.out k7);obtain⟨ps,hpe⟩:∃ps,ps=padS bh ds:=⟨_,rfl⟩;have HPS:=ZZ hpe;have hpl:bh+1≤ps.length:=by rw [hpe];unfold padS;simp;omega
        rw [←hpe] at hst;clear k7 hpe u8 t9;have HPL2:=ZZ hpl;obtain⟨r0,r1,r2⟩:=HS.out _ (al K2.out K7.out);have hgp:=(al K4.out (al HX5.out K7.out)).block gp (lt_of_block HRP.out) |>.trans HRP.out
        obtain⟨e0,e1,-⟩:=az hgp;clear hgp;go_wp2_with fail;refine(text_c M (Nat.le_trans HM.out (by decide)) _ _ _ (Hx.out.mono (al hww.out (al K2.out K7.out))) BX.out (HTB.out.mono (al KW.out K7.out))).mono ?_;rintro e w8 ⟨rfl,k8⟩;have K8:=ZZ k8;clear k8;go_wp2_with fail;go_ret;refine⟨?_,al KW.out (al K7.out K8.out)⟩;rw [show_text H0.out HPC.out HM0.out SZ.out HDS.out HPS.out (.inl HDN.out)];rfl
      ·obtain⟨g',rfl⟩:∃g',gk=g'+1:=⟨gk - 1,by omega⟩
       have t6:(bh:Int)<12:=by omega
       have hlt:decide ((bh:Int)<12)=true:=decide_eq_true t6;have HPV:=ZZ (pointL_more g' mm bh HDN.out);clear hz hbk;go_wp2_with fail;refine(tens_q (M+61+5*bh) (by have:=HM.out;have:=HBK.out;omega) 1 (by decide) _ _ _ HN5.out HBM.out).mono ?_;rintro e w6 ⟨v6,rfl,h6,k6⟩;obtain⟨b6,P6,p6,c6,Q6,q6,d6,rfl⟩:=h6.form2;have hr6:=(k6.block _ (lt_of_block HRM.out)).trans HRM.out;obtain⟨n0',n1',n2',nf0',nf1',nf2'⟩:=ai hr6;have H6:=ZZ h6;have K6:=ZZ k6;have HR6:=ZZ hr6;clear h6 k6 hr6;go_wp2_with fail
       go_roundg g'
       case measure=>omega
       case rel=>exact⟨bh+1,tensQ mm 1,by have:=HBK.out;omega,by go_num,HPL.out.symm.trans HPV.out |>.symm,(HBM.out.tens (k:=1)).mono (by have:=HBK.out;show _+(4*1+1)≤_;omega),b6,P6,p6,c6,Q6,q6,d6,put3_row HR6.out _ _ _,H6.out.put3' HR6.out _ _ _,ao (al HX5.out K6.out) (Nat.le_refl _) _ _ _⟩
   ·have hc9:c<9:=by omega
    have hlt:decide (c<9)=true:=decide_eq_true hc9;have hlt2:(c:Int)<9:=by omega
    have q0:(0:Int)≤(c:Int):=by omega
    obtain⟨bb,A3,k3,c3,B3,l3,d3,hrs,hnm,hrp,hex,hb1,hb2,hne⟩:=hsh;obtain⟨t,kk,hdr,hq0,hq1,hk1,hk2,hk3⟩:=pfx_at (HPF.out.mono (al hww.out hex)) c hc9;have HDR:=ZZ hdr;have HK1:=ZZ hk1;have HK2:=ZZ hk2;have HK3:=ZZ hk3;clear hk3;have HRS:=ZZ hrs;have HNM:=ZZ hnm;have HRP:=ZZ hrp;have HEX:=ZZ hex;have HB1:=ZZ hb1;have HB2:=ZZ hb2;have HNE:=ZZ hne;have HC:=ZZ hc;have HZ0:=ZZ hz;clear hdr hk1 hk2 hrs hnm hrp hex hb1 hb2 hne hc hz;go_wp2_with fail;have HKA:=ZZ (show kk.natAbs≤1073741824 by have:=HK1.out;have:=HK2.out;omega);have BT:=ZZ (show Bq (M+125) (tensQ 1 kk) from (bq_one.tens (k:=kk)).mono (by have:=HK1.out;have:=HK2.out;omega));have hwq:=ZZ (ab wr (.cells #[.string ⟨t.toArray⟩,.int .i64 kk] 117))
    have HKq:=ZZ (show ∀W,Ext (wr.alloc (.cells #[.string ⟨t.toArray⟩,.int .i64 kk] 117)) W→W.cell? ⟨gs,0,none⟩=some (.bool bb)∧W.cell? ⟨gs,1,none⟩=some (.slice A3 k3 c3)∧W.cell? ⟨gs,2,none⟩=some (.slice B3 l3 d3)∧W.cell? ⟨wr.heap.size,0,none⟩=some (.string ⟨t.toArray⟩)∧W.cell? ⟨wr.heap.size,1,none⟩=some (.int .i64 kk) from fun W h=>by
     obtain⟨a,b,c,-⟩:=ai (((al hwq.out h).block gs (lt_of_block HRS.out)).trans HRS.out);obtain⟨d,e,-⟩:=az (row2 h);exact⟨a,b,c,d,e⟩)
    have hgl:=ZZ (show W2.heap.size≤wr.heap.size from HEX.out.size);generalize wr.alloc (.cells #[.string ⟨t.toArray⟩,.int .i64 kk] _)=Wq at *;generalize wr.heap.size=gq at *;have HW2q:=ZZ (ad Wq);have hx0:=ZZ (ad Wq);have hS0:=HKq.out _ (al HW2q.out hx0.out);have e1:=ZZ (ac Wq);have hx1:=ZZ (al hx0.out e1.out)
    go_region_held3 (fun W=>W.cell? ⟨gs,0,none⟩=some (.bool bb)∧W.cell? ⟨gs,1,none⟩=some (.slice A3 k3 c3)∧W.cell? ⟨gs,2,none⟩=some (.slice B3 l3 d3)∧W.cell? ⟨gq,0,none⟩=some (.string ⟨t.toArray⟩)∧W.cell? ⟨gq,1,none⟩=some (.int .i64 kk))
     (first
      | exact HKq.out _ (al HW2q.out hx4.out)
      | exact HKq.out _ (al HW2q.out hx3.out)
      | exact HKq.out _ (al HW2q.out hx2.out)
      | exact HKq.out _ (al HW2q.out hx1.out))
     (first
      |(have _q:=hx3
        go_at_call 45
        refine(cmp_q (M+125) (by have:=HM.out;omega) _ _ _ _ _ (HNM.out.mono (al hwq.out hx3.out)) H3.out (BA.out.mono (by omega)) BT.out).mono ?_;clear _q;rintro e w33 ⟨rfl,k4⟩;have e4:=ZZ k4;have hx4:=ZZ (al hx3.out k4);clear k4)
      |(have _q:=hx2
        go_at_call 106
        refine(tens_q 64 (by decide) kk HKA.out _ (1:Rat) _ H2.out bq_one).mono ?_;clear _q;rintro e w32 ⟨vv,rfl,h3,k3⟩;obtain⟨b32,P32,p32,c32,Q32,q32,d32,rfl⟩:=h3.form2;have H3:=ZZ h3;clear h3;have e3:=ZZ k3;have hx3:=ZZ (al hx2.out k3);clear k3)
      |(have _q:=hx1
        go_at_call 24
        refine(int_q 1 (by decide) (by decide) _).mono ?_;clear _q;rintro e w31 ⟨vv,rfl,h2,k2⟩;obtain⟨b31,P31,p31,c31,Q31,q31,d31,rfl⟩:=h2.form2;have H2:=ZZ h2;clear h2;have e2:=ZZ k2;have hx2:=ZZ (al hx1.out k2);clear k2))
    generalize hcv:cmpQ (absQ x) (tensQ 1 kk)=cv at *;have HCV:=ZZ hcv;clear hcv;have KX:=ZZ (al hwq.out hx4.out);have hrp2:=(KX.out.block gp (lt_of_block HRP.out)).trans HRP.out;have hrs2:=(KX.out.block gs (lt_of_block HRS.out)).trans HRS.out;obtain⟨p0,p1,pf0,pf1⟩:=az hrp2;have HRP2:=ZZ hrp2;have HRS2:=ZZ hrs2;obtain⟨y0,y1,y2,y3,y4⟩:=HKq.out _ hx4.out;have HNX:=ZZ (pickP_step (absQ x) pc t kk (pfxs.drop (c+1+1)));clear hrp2 hrs2
    rcases(show 0≤cv∨cv<0 by omega) with hv|hv
    ·go_wp2_with fail
     go_roundg (gk - 1)
     case measure=>have:=HZ0.out;omega
     case rel=>exact⟨c+1,(t,kk),by have:=HC.out;have:=HZ0.out;omega,by go_num,HPK.out.symm.trans (by rw [HDR.out];exact HNX.out.trans (by rw [HCV.out,if_pos hv])) |>.symm,⟨HK1.out,HK2.out,HK3.out⟩,⟨bb,A3,k3,c3,B3,l3,d3,put2_other HRS2.out HNE.out _ _,(HNM.out.mono KX.out).put2 HRP2.out _ _,put2_row HRP2.out _ _,ext_put2 (al HEX.out KX.out) HB2.out _ _,HB1.out,HB2.out,HNE.out⟩⟩
    ·go_wp2_with fail
     go_roundg (gk - 1)
     case measure=>have:=HZ0.out;omega
     case rel=>exact⟨c+1,pc,by have:=HC.out;have:=HZ0.out;omega,by go_num,HPK.out.symm.trans (by rw [HDR.out];exact HNX.out.trans (by rw [HCV.out,if_neg (by omega)])) |>.symm,HPB,⟨bb,A3,k3,c3,B3,l3,d3,HRS2.out,HNM.out.mono KX.out,HRP2.out,al HEX.out KX.out,HB1.out,HB2.out,HNE.out⟩⟩
theorem showS_zero:showS 0=[48]:=by unfold showS;rw [if_pos rfl]
theorem show_c (M:Nat) (hM:M≤1073741824) (vx:Value) (x:Rat) (w:World) (hx:Nm w vx x) (bx:Bq M x) (hpf:Pfx w) (htab:Tens w):Calls Tryz.prog 27 #[vx] w fun e w'=>e=.returned (.string ⟨(showS x).toArray⟩)∧Ext w w':=by
 by_cases h:x=0
 ·subst h;rw [showS_zero];exact show_zero vx w hx
 ·exact show_main M hM vx x w hx bx h hpf htab
end Go.Proofs.YtpgdefgdboijlaaGreatDoor
namespace Go.Proofs.YtpgdefgdboijlaaGreatDoor
open Go Go.Lib
end Go.Proofs.YtpgdefgdboijlaaGreatDoor
namespace Go.Proofs.YtpgdefgdboijlaaGreatDoor
open Go.RowKit
theorem parse_err (l:List UInt8):(parseS l).1=0∨(parseS l).1=3∨(parseS l).1=6:=by
 unfold parseS
 dsimp only
 repeat' split
 all_goals first|(left;rfl)|(right;left;rfl)|(right;right;rfl)
theorem put3_other {W:World} {g k:Nat} {o:Obj} (h:W.heap[k]?=some o) (hne:k≠g) (a b c:Value):(((W.setCell ⟨g,0,none⟩ a).setCell ⟨g,1,none⟩ b).setCell ⟨g,2,none⟩ c).heap[k]?=some o:=by
 rw [Below.heap_setCell _ _ _ _ hne,Below.heap_setCell _ _ _ _ hne,Below.heap_setCell _ _ _ _ hne];exact h
end Go.Proofs.YtpgdefgdboijlaaGreatDoor
namespace Go.Proofs.YtpgdefgdboijlaaGreatDoor
open Go.RowKit
end Go.Proofs.YtpgdefgdboijlaaGreatDoor
namespace Go.Proofs.YtpgdefgdboijlaaGreatDoor
open Go.RowKit
end Go.Proofs.YtpgdefgdboijlaaGreatDoor
