/- The laws of PolyRing, of lists of numbers (plain). Spans of the reference: points, negatives, rounding outward, middles, widths. Printed by gen_sg.py. The laws' helper Awake returns true. Printed by gen_vd.py. The reference beside the program: one text for equal numbers; regions walked by hand. Printed by gen_lp.py. Arguments that are slices of strings, opened and shut; the answer of a law's row with places. What the rows' lists give at the seat of the Poly laws: the table of powers of ten. What the law PolyRing needs beside the contracts. Same of two polynomials. Printed by gen_kh.py. The reference's polynomials in memory: slices of its numbers, of others and of the call's own. -/
import Derived.Test.YtjamgccgoapbeaaGreatDoorGYu
import Derived.Test.YtjamgccgoapbeaaGreatDoorGVx
import Derived.Test.YtjamgccgoapbeaaGreatDoorGYo
import Derived.Test.YtjamgccgoapbeaaGreatDoorGSa
import Derived.Test.YtjamgccgoapbeaaGreatDoorGYl
import Derived.Deep.RegionHeld3
import Derived.Deep.DeepCutAuto
import Derived.Test.YtjamgccgoapbeaaGreatDoorGRp
import Derived.Test.YtjamgccgoapbeaaGreatDoorGYt
import Derived.Deep.Strs
import Derived.WalkKit
import Derived.ProofKit
import Derived.OpenShut
import Derived.RowKit
import Derived.Test.YtjamgccgoapbeaaGreatDoorGTe
import Derived.Test.YtjamgccgoapbeaaGreatDoorCards
import Derived.Test.YtjamgccgoapbeaaGreatDoorTie
import Derived.MakeChecks
import Derived.Lay
import Derived.Deep.DeepHandedRow
import Derived.Lib.LaidU8
set_option linter.unusedVariables false
set_option maxRecDepth 100000
set_option maxHeartbeats 64000000
namespace Go.Proofs.YtjamgccgoapbeaaGreatDoor
theorem co_addF (p q:List Rat):co (addF p q)=fun k=>co p k+co q k:=by
 funext i
 unfold addF;rw [co_trim,co_zip]
end Go.Proofs.YtjamgccgoapbeaaGreatDoor
set_option linter.unusedVariables false
set_option maxRecDepth 100000
set_option maxHeartbeats 64000000
namespace Go.Proofs.YtjamgccgoapbeaaGreatDoor
open Go.RowKit
end Go.Proofs.YtjamgccgoapbeaaGreatDoor
set_option linter.unusedVariables false
set_option maxRecDepth 100000
set_option maxHeartbeats 64000000
namespace Go.Proofs.YtjamgccgoapbeaaGreatDoor
open Go.RowKit
theorem text_lit (M:Nat) (hM:M≤1099511627776) (vx:Value) (x:Rat) (l:List UInt8) (hl:txt x=l) (w:World) (hx:Nm w vx x) (bx:Bq M x) (htab:Tens w):Calls Tryz.prog 13 #[vx] w fun e w'=>e=.returned (.string ⟨l.toArray⟩)∧Ext w w':=by
 subst hl;exact text_c M hM vx x w hx bx htab
end Go.Proofs.YtjamgccgoapbeaaGreatDoor
set_option linter.unusedVariables false
set_option maxRecDepth 100000
set_option maxHeartbeats 64000000
namespace Go.Proofs.YtjamgccgoapbeaaGreatDoor
open Go.RowKit
theorem same_c (M:Nat) (hM:M≤1099511627776) (vx vy:Value) (x:Rat) (w:World) (hx:Nm w vx x) (hy:Nr w vy x) (bx:Bq M x) (ht:Tens w):Calls Tryz.prog 38 #[vx,vy] w fun e w'=>e=.returned (.bool true)∧Ext w w':=by
 obtain⟨b1,A,k,ca,B,l,cb,rfl⟩:=hx.form2;obtain⟨s,C,m,cc,D,n,cd,rfl,-,-,-⟩:=hy.form;have HM:=ZZ hM;have BX:=ZZ bx;have HT:=ZZ ht;have Hx:=ZZ hx;have Hy:=ZZ hy;obtain⟨hS,hww⟩:=setupM w (.bool b1) (.slice A k ca) (.slice B l cb) (.int .i64 s) (.slice C m cc) (.slice D n cd);have HS:=ZZ hS;have HWW:=ZZ hww;obtain⟨tt,htt⟩:∃l,txt x=l:=⟨_,rfl⟩;have HTT:=ZZ htt
 have hlit:∀(vx:Value) (w:World),Nr w vx x→Calls Tryz.prog 91 #[vx] w fun e w'=>e=.returned (.string ⟨tt.toArray⟩)∧Ext w w':=fun vx w h=>by
  rw [←htt];exact text_r M hM vx x w h bx
 have HLIT:=ZZ hlit;clear hM bx ht hx hy hS hww htt hlit
 go_enter Tryz.func38,Tryz.ntmps38
 go_wp2_with fail;generalize World.alloc (World.alloc w (.cells #[.bool b1,.slice A k ca,.slice B l cb] _)) (.cells #[.int .i64 s,.slice C m cc,.slice D n cd] _)=W2 at *
 generalize w.heap.size=g0 at *;have hS0:=HS.out _ (ae W2);have hx1:=ZZ (ac W2)
 go_region_held3 (fun W=>W.cell? ⟨g0,0,none⟩=some (.bool b1)∧W.cell? ⟨g0,1,none⟩=some (.slice A k ca)∧W.cell? ⟨g0,2,none⟩=some (.slice B l cb)∧W.cell? ⟨g0+1,0,none⟩=some (.int .i64 s)∧W.cell? ⟨g0+1,1,none⟩=some (.slice C m cc)∧W.cell? ⟨g0+1,2,none⟩=some (.slice D n cd))
  (first
   | exact HS.out _ hx3.out
   | exact HS.out _ hx2.out
   | exact HS.out _ hx1.out)
  (first
   |(have _q:=hx2
     go_at_call 91
     refine(HLIT.out _ _ (Hy.out.mono (am HWW.out hx2.out))).mono ?_;clear _q;rintro e w2 ⟨rfl,k3⟩;have hx3:=ZZ (am hx2.out k3);clear k3)
   |(have _q:=hx1
     go_at_call 13
     refine(text_lit M HM.out _ x tt HTT.out _ (Hx.out.mono (am HWW.out hx1.out)) BX.out (HT.out.mono (am HWW.out hx1.out))).mono ?_;clear _q;rintro e w1 ⟨rfl,k2⟩;have hx2:=ZZ (am hx1.out k2);clear k2))
 all_goals
  go_wp2_with fail;go_ret
  exact⟨by simp,am HWW.out hx3.out⟩
end Go.Proofs.YtjamgccgoapbeaaGreatDoor
set_option linter.unusedVariables false
set_option maxRecDepth 100000
set_option maxHeartbeats 64000000
namespace Go.Proofs.YtjamgccgoapbeaaGreatDoor
open Go Go.ChangeShapes Go.WideShapes Go.ChangeAt Go.RowKit Go.Deep
theorem ext_frozenP {W W':World} (h:Ext W W') {b:Nat} (hb:b<W.heap.size) (o:Nat) (s:_):W'.frozen? ⟨b,o,s⟩=W.frozen? ⟨b,o,s⟩:=by
 have h1:=h.block b hb;unfold World.frozen?
 simp only [h1]
theorem post_extP {H:Type} {enc:TypeId × Value→H} {f:Func} {s:ChangeSpec} {apart fresh handsOn again:Bool} {W W':World} {args:Array Value} {v:Value} {ds gs:List (DataW H)} {pa:List MemPlace} (hW:DataW.Whole enc Tryz.prog f.params.toList s.vars apart W args.toList ds gs pa) (hres:∀(b:Nat) (sp:Nat→Bool) (hd:Bool),DataW.TrodAll enc Tryz.prog W' b sp hd f.resultTypes.toList (v.resultList f.resultTypes.size) (s.fn H (ds ++ gs)).results []) (hargs:∀sp:Nat→Bool,(∀p ∈ pa,sp p.block=true)→DataW.TrodAll enc Tryz.prog W' 0 sp true f.params.toList args.toList (s.fn H (ds ++ gs)).args pa) (hvars:∀sp:Nat→Bool,DataW.TrodVars enc Tryz.prog W' sp s.vars (s.fn H (ds ++ gs)).vars []) (hk:Ext W W') (hok:∀(j:Nat) (t:TypeId) (r:Value),f.resultTypes[j]?=some t→(v.resultList f.resultTypes.size)[j]?=some r→Value.okWide Tryz.prog W' .any 0 t r):s.post enc Tryz.prog f apart fresh handsOn again W args v W':=by
 have hold:∀p ∈ pa,(fun b=>decide (b<W.heap.size)) p.block=true:=fun p hp=>by simpa using hW.lt p hp
 have hlt:=fun p hp=>hW.lt p hp;refine⟨ds,gs,pa,[],pa,[],hW,hres _ _ _,hargs _ hold,hvars _,World.keptBut_mono (fun p hp=>⟨hp,Or.inr (Or.inl hp)⟩) (hk.frame (· ∈ pa)),fun _=>?_⟩;obtain⟨_,_,_,_,_,hz,hn⟩:=hW;refine⟨hok,_,_,([] ++ pa) ++ [],⟨[] ++ pa,[],trodAll_append (hargs _ (fun _ _=>rfl)) (hres _ _ _),hvars _,rfl,?_,?_⟩,?_⟩
 ·intro b off hp
  have hp':MemPlace.cell b off ∈ pa:=by simpa using hp
  rw [ext_frozenP hk (b:=b) (hlt _ hp')];exact hz b off hp'
 ·intro ha
  simpa using hn ha
 ·intro p hp _
  simpa using hp
theorem open_stl {H:Type} {enc:TypeId × Value→H} {W:World} {b0:Nat} {T E:TypeId} {v:Value} {d:DataW H} {ps:List MemPlace} (ht:Tryz.prog.underlying T=some (.slice E)) (he:Tryz.prog.underlying E=some .string) (hc:Tryz.prog.cellsOf E=1) (hv:Value.okWide Tryz.prog W .any b0 T v) (h:DataW.Trod enc Tryz.prog W 0 (fun _=>true) true T v d ps):∃ls,Stl W v ls∧∀W',Ext W W'→∀sp:Nat→Bool,(∀p ∈ ps,sp p.block=true)→DataW.Trod enc Tryz.prog W' 0 sp true T v d ps:=by
 obtain⟨a0,len,cap,rfl⟩:=okWide_slice ht hv;obtain⟨fuel,hf⟩:=h
 rcases open_strs ht he hc hf with ⟨hcs,hx⟩|⟨a,len',cap',m,Sx,hcs,_,hl,hm,hmm,hx,hcell⟩
 ·simp [Value.cells] at hcs
  obtain⟨rfl,rfl,rfl⟩:=hcs
  simp only [Prod.mk.injEq] at hx
  obtain⟨rfl,rfl⟩:=hx;exact⟨[],.inl ⟨⟨_,_,rfl⟩,rfl⟩,fun W' _ sp _=>shut_slice_nil ht⟩
 simp [Value.cells] at hcs
 obtain⟨rfl,rfl,rfl⟩:=hcs
 simp only [Prod.mk.injEq] at hx
 obtain⟨rfl,rfl⟩:=hx
 simp only [if_true] at hmm
 subst hmm;obtain⟨b,off,spot⟩:=a
 by_cases hc0:m=0
 ·subst hc0
  have hlen0:len=0:=by omega
  subst hlen0;refine⟨[],.inl ⟨⟨_,_,rfl⟩,rfl⟩,fun W' _ sp _=>?_⟩
  show ∃n,DataW.trod enc Tryz.prog W' 0 sp true n T [.slice (some ⟨b,off,spot⟩) 0 0]=some (.slice [] [],[])
  cases hsp:sp b
  ·simpa [MemPlace.row] using shut_slice_cells (enc:=enc) (w:=W') (base:=0) (spare:=sp) (held:=true) (a:=⟨b,off,spot⟩) (len:=0) (cap:=0) ht (Nat.zero_le _) (Nat.le_refl _) (Nat.zero_le _) hsp (fun _=>.nil) (fun _=>[]) (fun i hi=>absurd hi (Nat.not_lt_zero _))
  ·simpa [MemPlace.row] using shut_slice_whole_cells (enc:=enc) (w:=W') (base:=0) (spare:=sp) (held:=true) (a:=⟨b,off,spot⟩) (len:=0) (cap:=0) ht (Nat.zero_le _) (Nat.le_refl _) (Nat.zero_le _) hsp (fun _=>.nil) (fun _=>[]) (fun i hi=>absurd hi (Nat.not_lt_zero _))
 have hspot:spot=none:=by simpa [Addr.add] using World.cell?_spot (hcell 0 (by omega)).1
 subst hspot;have hcell':∀j,j<m→W.cell? ⟨b,off+j,none⟩=some (.string (Sx j)):=fun j hj=>by rw [←add_plain];exact(hcell j hj).1
 refine⟨(List.range len).map fun i=>(Sx i).data.toList,.inr ⟨b,off,m,by simp,by simp;omega,fun s hs=>?_,fun i s hs=>?_⟩,fun W' k sp hsp=>?_⟩
 ·obtain⟨i,hi,rfl⟩:=List.mem_map.1 hs
  have:=(hcell i (by have:=List.mem_range.1 hi;omega)).2
  rw [Array.length_toList];exact this
 ·rw [List.getElem?_map] at hs
  have hi:i<len:=by
   rcases Nat.lt_or_ge i len with h|h
   ·exact h
   ·rw [List.getElem?_eq_none (by simpa using h)] at hs;cases hs
  rw [List.getElem?_range hi] at hs;obtain rfl:=Option.some.inj hs;exact hcell' i (by omega)
 ·exact shut_strs_whole (enc:=enc) (w:=W') (base:=0) (spare:=sp) (held:=true) ht he hc (Nat.zero_le _) hl hm (hsp (.cell b (off+0)) (MemPlace.mem_row.2 ⟨0,by omega,rfl⟩)) Sx (fun i hi=>ar k (hcell' i hi)) (fun i hi=>(hcell i hi).2)
end Go.Proofs.YtjamgccgoapbeaaGreatDoor
set_option linter.unusedVariables false
set_option maxRecDepth 100000
set_option maxHeartbeats 64000000
namespace Go.Proofs.YtjamgccgoapbeaaGreatDoor
open Go.ChangeShapes Go.WideShapes Go.ChangeAt Go.RowKit
theorem tensP {W:World} (h:Lib.VarReads Tryz.prog W "internal/strconv.uint64pow10" Rows.laid_internal_strconv_uint64pow10):Tens W:=by
 obtain⟨g,t,cs,fuel,p,hg,ht,hv,hd⟩:=h;have hg':Tryz.prog.globalNamed "internal/strconv.uint64pow10"=some 2:=by kernel_rfl
 obtain rfl:=Option.some.inj (hg'.symm.trans hg);have ht':(Tryz.prog.globals[(2:Nat)]?).map (·.type)=some 213:=by kernel_rfl
 obtain rfl:=Option.some.inj (ht'.symm.trans ht);have e:(Rows.laid_internal_strconv_uint64pow10:DataW Unit)=Lib.tabData .u64 Lib.pow10Tab:=by kernel_rfl
 rw [e] at hd;unfold Tens Lib.TabIs;rw [hv,←Lib.cells_of_tab Tryz.underlying213 Tryz.underlying96 (by kernel_rfl) (by kernel_rfl) hd]
theorem tensP_of {W:World} {l:List (String × DataW Unit)} (h:laidMetH Tryz.prog l W) (hp:(l.all fun x=>x.2.handleName?.isNone)=true) (h1:("internal/strconv.uint64pow10",Rows.laid_internal_strconv_uint64pow10) ∈ l):Tens W:=by
 rw [MakeChecks.laidMetH_plain _ _ _ hp] at h;exact tensP (Lib.laidMet.reads h h1)
end Go.Proofs.YtjamgccgoapbeaaGreatDoor
set_option linter.unusedVariables false
set_option maxRecDepth 100000
set_option maxHeartbeats 64000000
namespace Go.Proofs.YtjamgccgoapbeaaGreatDoor
open Go Go.RowKit
set_option linter.unusedSimpArgs false
def Px (w:World) (v:Value) (p:List Rat) (N M:Nat):Prop:=Pl w v p∧p.length≤N∧∀x ∈ p,Bq M x
theorem Px.mono {w w':World} {v:Value} {p:List Rat} {N M:Nat} (h:Px w v p N M) (k:Ext w w'):Px w' v p N M:=⟨h.1.mono k,h.2⟩
theorem Px.up {w:World} {v:Value} {p:List Rat} {N M N' M':Nat} (h:Px w v p N M) (hN:N≤N') (hM:M≤M'):Px w v p N' M':=⟨h.1,Nat.le_trans h.2.1 hN,fun x hx=>(h.2.2 x hx).mono hM⟩
theorem bq_of_co {l:List Rat} {K:Nat} (h:∀i,Bq K (co l i)):∀x ∈ l,Bq K x:=by
 intro x hx;obtain⟨i,hi⟩:=List.getElem?_of_mem hx;have h1:=h i;unfold co at h1;rw [hi] at h1;exact h1
theorem mul_x {N1 N2 M N K:Nat} (hM:0<M) (hN1:N1≤100000) (hN2:N2≤100000) (hK:N1*(M+M+1)+1≤K) (hK2:K≤1099511627776) (hN:N1+N2≤N) (vp vq:Value) (p q:List Rat) (w:World) (hp:Px w vp p N1 M) (hq:Px w vq q N2 M):Calls Tryz.prog 32 #[vp,vq] w fun e w'=>∃v',e=.returned v'∧Px w' v' (mulF p q) N K∧Ext w w':=by
 have h1:p.length*(M+M+1)+1≤K:=Nat.le_trans (Nat.add_le_add_right (Nat.mul_le_mul_right _ hp.2.1) 1) hK;refine(mul_p M hM vp vq p q (Nat.le_trans hp.2.1 hN1) (Nat.le_trans hq.2.1 hN2) (Nat.le_trans h1 hK2) w hp.1 hq.1 hp.2.2 hq.2.2).mono ?_;rintro e w' ⟨v',rfl,h,k⟩;have h3:=hp.2.1;have h4:=hq.2.1;exact⟨v',rfl,⟨h.pl,Nat.le_trans (mulF_len p q) (by omega),fun x hx=>(bq_mulF hM hp.2.2 hq.2.2 x hx).mono h1⟩,k⟩
theorem add_x {N1 N2 M N K:Nat} (hM:0<M) (hM2:M≤1099511627776) (hN1:N1≤N) (hN2:N2≤N) (hN:N≤100000) (hK:M+M+1≤K) (vp vq:Value) (p q:List Rat) (w:World) (hp:Px w vp p N1 M) (hq:Px w vq q N2 M):Calls Tryz.prog 28 #[vp,vq] w fun e w'=>∃v',e=.returned v'∧Px w' v' (addF p q) N K∧Ext w w':=by
 have h3:=hp.2.1;have h4:=hq.2.1;refine(add_p M hM2 vp vq p q (by omega) (by omega) w hp.1 hq.1 hp.2.2 hq.2.2).mono ?_;rintro e w' ⟨v',rfl,h,k⟩;refine⟨v',rfl,⟨h.pl,add_len p q N (by omega) (by omega),bq_of_co fun i=>?_⟩,k⟩;rw [co_addF];exact((bq_co hM hp.2.2 i).add (bq_co hM hq.2.2 i)).mono hK
theorem trim_x {N M:Nat} (hN:N≤100000) (vp:Value) (p:List Rat) (w:World) (hp:Px w vp p N M):Calls Tryz.prog 24 #[vp] w fun e w'=>∃v',e=.returned v'∧Px w' v' (trimF p) N M∧Ext w w':=by
 refine(trim_q vp p (by have:=hp.2.1;omega) w hp.1).mono ?_;rintro e w' ⟨v',rfl,h,k⟩;exact⟨v',rfl,⟨h.pl,Nat.le_trans (trim_le p) hp.2.1,fun x hx=>hp.2.2 x (trim_mem hx)⟩,k⟩
theorem deriv_x {N M K:Nat} (hM:0<M) (hN:N≤100000) (hK:M+64≤K) (hK2:K≤1099511627776) (vp:Value) (p:List Rat) (w:World) (hp:Px w vp p N M):Calls Tryz.prog 36 #[vp] w fun e w'=>∃v',e=.returned v'∧Px w' v' (derivF p) N K∧Ext w w':=by
 refine(deriv_p M hM (Nat.le_trans hK hK2) vp p (by have:=hp.2.1;omega) w hp.1 hp.2.2).mono ?_;rintro e w' ⟨v',rfl,h,k⟩;exact⟨v',rfl,⟨h.pl,Nat.le_trans (deriv_len p) hp.2.1,fun x hx=>(bq_deriv hM hp.2.2 (by have:=hp.2.1;omega) x hx).mono hK⟩,k⟩
theorem deg_x {N M:Nat} (hN:N≤100000) (vp:Value) (p:List Rat) (w:World) (hp:Px w vp p N M) (d:Int) (hd:((trimF p).length:Int) - 1=d):Calls Tryz.prog 26 #[vp] w fun e w'=>e=.returned (.int .i64 d)∧Ext w w':=by
 subst hd;exact deg_q vp p (by have:=hp.2.1;omega) w hp.1
theorem bq_ev {M:Nat} {x:Rat} (bx:Bq M x):∀(L:List Rat),(∀c ∈ L,Bq M c)→Bq (L.length*(M+M+1)+1) (evR L x):=by
 intro L
 induction L with
 | nil=>intro _;exact bq_zero _ (by omega)
 | cons c L ih=>
  intro h;have h1:=ih fun y hy=>h y (List.mem_cons_of_mem _ hy);have h2:=(h1.mul bx).add (h c (List.mem_cons_self ..));unfold evR;refine h2.mono ?_;rw [List.length_cons,Nat.add_mul];omega
theorem eval_x {N M K:Nat} (hM:0<M) (hN:N≤100000) (hK:N*(M+M+1)+1+M≤K) (hK2:K≤1099511627776) (vp vx:Value) (p:List Rat) (x:Rat) (w:World) (hp:Px w vp p N M) (hx:Nm w vx x) (bx:Bq M x):Calls Tryz.prog 39 #[vp,vx] w fun e w'=>∃v',e=.returned v'∧Nm w' v' (evR p x)∧Ext w w':=by
 have h1:p.length*(M+M+1)≤N*(M+M+1):=Nat.mul_le_mul_right _ hp.2.1;exact eval_p M hM vp vx p x (Nat.le_trans hp.2.1 hN) (by omega) w hp.1 hx hp.2.2 bx
theorem bq_evx {w:World} {v:Value} {p:List Rat} {x:Rat} {N M K:Nat} (hp:Px w v p N M) (bx:Bq M x) (hK:N*(M+M+1)+1≤K):Bq K (evR p x):=
 (bq_ev bx p hp.2.2).mono (Nat.le_trans (Nat.add_le_add_right (Nat.mul_le_mul_right _ hp.2.1) 1) hK)
theorem bq_horn {M:Nat} {a:Rat × Rat} (ha:Bq M a.1∧Bq M a.2):∀(L:List Rat),(∀c ∈ L,Bq M c)→Bq (L.length*(M+M+1)+1) (hornS a L.reverse).1∧Bq (L.length*(M+M+1)+1) (hornS a L.reverse).2:=by
 intro L
 induction L with
 | nil=>intro _;exact⟨bq_zero _ (by omega),bq_zero _ (by omega)⟩
 | cons c L ih=>
  intro h;have h1:=ih fun y hy=>h y (List.mem_cons_of_mem _ hy);have h2:=bq_stepS h1 ha (h c (List.mem_cons_self ..));rw [List.reverse_cons,hornS_snoc];have h3:L.length*(M+M+1)+1+M+M+1≤(c :: L).length*(M+M+1)+1:=by rw [List.length_cons,Nat.add_mul];omega
  exact⟨h2.1.mono h3,h2.2.mono h3⟩
theorem bq_evs {w:World} {v:Value} {p:List Rat} {a:Rat × Rat} {N M K:Nat} (hp:Px w v p N M) (ha:Bq M a.1∧Bq M a.2) (hK:N*(M+M+1)+1≤K):Bq K (evS p a).1∧Bq K (evS p a).2:=by
 have h:=bq_horn ha (trimF p) fun c hc=>hp.2.2 c (trim_mem hc);have h1:(trimF p).length*(M+M+1)+1≤K:=Nat.le_trans (Nat.add_le_add_right (Nat.mul_le_mul_right _ (Nat.le_trans (trim_le p) hp.2.1)) 1) hK;exact⟨h.1.mono h1,h.2.mono h1⟩
theorem span_x {N M:Nat} (hM:0<M) (hN:N≤100000) (hK:N*(M+M+1)+1+M≤549755813888) (vp vx:Value) (p:List Rat) (a1 a2:Rat) (w:World) (hp:Px w vp p N M) (hx:Sp w vx a1 a2) (b1:Bq M a1) (b2:Bq M a2):Calls Tryz.prog 10 #[vp,vx] w fun e w'=>∃v',e=.returned v'∧Sp w' v' (evS p (a1,a2)).1 (evS p (a1,a2)).2∧Ext w w':=by
 have h1:p.length*(M+M+1)≤N*(M+M+1):=Nat.mul_le_mul_right _ hp.2.1;exact eval_span_p M hM vp vx p a1 a2 (Nat.le_trans hp.2.1 hN) (by omega) w hp.1 hx hp.2.2 b1 b2
theorem great_len {LL:List (Value × List (List UInt8))} (h:greatF LL=false):∀y ∈ LL,y.2.length≤60:=by
 intro y hy;have h1:=List.any_eq_false.1 h y hy;rw [Bool.or_eq_true,not_or] at h1
 have:=h1.1
 rw [decide_eq_true_eq] at this;omega
theorem lt_of_block' {W:World} {k:Nat} {o:Obj} (h:W.heap[k]?=some o):k<W.heap.size:=(Array.getElem?_eq_some_iff.1 h).1
structure RgS (W0 W:World) (ks:List (Nat × Obj)) (ns:List (Value × Rat)):Prop where
 ext:Ext W0 W
 keep:∀p ∈ ks,W0.heap.size≤p.1∧W.heap[p.1]?=some p.2
 nn:∀y ∈ ns,Nm W y.1 y.2
theorem RgS.start (W:World):RgS W W [] []:=⟨ae _,(fun p hp=>by cases hp),(fun p hp=>by cases hp)⟩
theorem RgS.mono {W0 W W':World} {ks:List (Nat × Obj)} {ns:List (Value × Rat)} (h:RgS W0 W ks ns) (k:Ext W W'):RgS W0 W' ks ns:=
 ⟨am h.ext k,(fun p hp=>⟨(h.keep p hp).1,(k.block _ (lt_of_block' (h.keep p hp).2)).trans (h.keep p hp).2⟩),(fun y hy=>(h.nn y hy).mono k)⟩
theorem RgS.alloc {W0 W:World} {ks:List (Nat × Obj)} {ns:List (Value × Rat)} (h:RgS W0 W ks ns) (o:Obj):RgS W0 (W.alloc o) ((W.heap.size,o) :: ks) ns:=by
 have hm:=h.mono (ab W o);refine⟨hm.ext,fun p hp=>?_,hm.nn⟩
 rcases List.mem_cons.1 hp with rfl|hp
 ·exact⟨h.ext.size,heap_alloc_new _ _⟩
 ·exact hm.keep p hp
theorem RgS.num {W0 W:World} {ks:List (Nat × Obj)} {ns:List (Value × Rat)} {v:Value} {q:Rat} (h:RgS W0 W ks ns) (hq:Nm W v q):RgS W0 W ks ((v,q) :: ns):=
 ⟨h.ext,h.keep,fun y hy=>by
  rcases List.mem_cons.1 hy with rfl|hy
  ·exact hq
  ·exact h.nn y hy⟩
theorem RgS.sub {W0 W:World} {ks ks':List (Nat × Obj)} {ns:List (Value × Rat)} (h:RgS W0 W ks ns) (hs:∀p ∈ ks',p ∈ ks):RgS W0 W ks' ns:=⟨h.ext,(fun p hp=>h.keep p (hs p hp)),h.nn⟩
theorem RgS.put {W0 W:World} {ks:List (Nat × Obj)} {ns:List (Value × Rat)} {g:Nat} {s:Bool} {A B:Option Addr} {k ca l cb:Nat} {T:TypeId} (h:RgS W0 W ks ns) (hg:(g,.cells #[.bool s,.slice A k ca,.slice B l cb] T) ∈ ks) (a b c:Value):RgS W0 (put3at W g 0 a b c) (ks.map fun p=>if p.1=g then (g,.cells #[a,b,c] T) else p) ns:=by
 obtain⟨hge,hr⟩:=h.keep _ hg;refine⟨((h.ext.setCell hge _).setCell hge _).setCell hge _,fun p hp=>?_,fun y hy=>nm_put3b (h.nn y hy) hr a b c⟩;obtain⟨p0,h0,rfl⟩:=List.mem_map.1 hp
 by_cases hpg:p0.1=g
 ·rw [if_pos hpg];exact⟨hge,put3b_row hr a b c⟩
 ·rw [if_neg hpg];exact⟨(h.keep p0 h0).1,(put3b_other a b c hpg).trans (h.keep p0 h0).2⟩
section
variable {P:Program} {md:Region.Mode} {ops:Array Oper} {Q:Exit→Act→World→Prop} {S:World→Prop}
end
def BoxS (W:World) (p:Value) (lo hi:Rat):Prop:=∃g s A k ca B l cb s' A' k' ca' B' l' cb',p=.pointer (some ⟨g,0,none⟩)∧W.heap[g]?=some (.cells #[.bool s,.slice A k ca,.slice B l cb,.bool s',.slice A' k' ca',.slice B' l' cb'] 37 (0,0))∧Sp W (.agg #[.bool s,.slice A k ca,.slice B l cb,.bool s',.slice A' k' ca',.slice B' l' cb']) lo hi
theorem RgS.put6 {W0 W:World} {ks:List (Nat × Obj)} {ns:List (Value × Rat)} {g:Nat} {s:Bool} {A:Option Addr} {k ca:Nat} {B:Option Addr} {l cb:Nat} {s':Bool} {A':Option Addr} {k' ca':Nat} {B':Option Addr} {l' cb':Nat} {T:TypeId} (h:RgS W0 W ks ns) (hg:(g,.cells #[.bool s,.slice A k ca,.slice B l cb,.bool s',.slice A' k' ca',.slice B' l' cb'] T) ∈ ks) (a b c d e f:Value):RgS W0 (Proofs.YtjamgccgoapbeaaGreatDoor.put6 W g a b c d e f) (ks.map fun p=>if p.1=g then (g,.cells #[a,b,c,d,e,f] T) else p) ns:=by
 obtain⟨hge,hr⟩:=h.keep _ hg;refine⟨af h.ext hge ..,fun p hp=>?_,fun y hy=>(h.nn y hy).put6 hr ..⟩;obtain⟨p0,h0,rfl⟩:=List.mem_map.1 hp
 by_cases hpg:p0.1=g
 ·rw [if_pos hpg];exact⟨hge,ag hr ..⟩
 ·rw [if_neg hpg];exact⟨(h.keep p0 h0).1,(put6_oth _ _ _ _ _ _ hpg).trans (h.keep p0 h0).2⟩
end Go.Proofs.YtjamgccgoapbeaaGreatDoor
set_option linter.unusedVariables false
set_option maxRecDepth 100000
set_option maxHeartbeats 64000000
namespace Go.Proofs.YtjamgccgoapbeaaGreatDoor
open Go Go.RowKit
set_option linter.unusedSimpArgs false
theorem same_l (M:Nat) (hM:M≤1099511627776) (va vb:Value) (l:List Rat) (hl:l.length≤1000000) (w:World) (ha:Pl w va l) (hb:PlR w vb l) (hB:∀q ∈ l,Bq M q) (ht:Tens w):Calls Tryz.prog 23 #[va,vb] w fun e w'=>e=.returned (.bool true)∧Ext w w':=by
 obtain⟨A,cap,rfl,-,hA⟩:=id ha;obtain⟨C,cap2,rfl,-,hC⟩:=id hb;obtain⟨n,hn⟩:∃n,l.length=n:=⟨_,rfl⟩;rw [hn];have HNL:=ZZ hn;have HL:=ZZ hl;have HB:=ZZ hB;have HM:=ZZ hM;have HA:=ZZ hA;have HCC:=ZZ hC;have HT:=ZZ ht;clear ha hb hl hB hM hA hC hn ht
 go_enter Tryz.func23,Tryz.ntmps23
 go_wp2_with fail
 go_loopg [5] n (fun k i wr=>∃j,Hid (j+k=n)∧i=.int .i64 (j:Int)∧Hid (Ext w wr))
 case atStart=>exact⟨0,ZZ (Nat.zero_add _),rfl,ZZ (ae _)⟩
 case round=>
  obtain⟨j,HJ,rfl,HE⟩:=hrel;rename World=>WR
  rcases Nat.eq_zero_or_pos gk with hz|hz
  ·subst hz
   obtain rfl:j=n:=HJ.out;have q1:decide ((j:Int)<(j:Int))=false:=decide_eq_false (Int.lt_irrefl _);go_wp2_with fail;go_ret;exact⟨rfl,HE.out⟩
  ·have hjn:j<n:=by have:=HJ.out;omega
   have q1:decide ((j:Int)<(n:Int))=true:=decide_eq_true (by omega);have q4:(j:Int)<(n:Int):=by omega
   have q5:(0:Int)≤(j:Int):=by omega
   rcases HA.out with ⟨-,h5⟩|⟨b,o,rfl,ht⟩
   ·have:=HNL.out;rw [h5] at this;simp at this;omega
   rcases HCC.out with ⟨-,h5⟩|⟨c,u,rfl,ht2⟩
   ·have:=HNL.out;rw [h5] at this;simp at this;omega
   obtain⟨q,hq⟩:∃q,l[j]?=some q:=⟨l[j]'(by rw [HNL.out];exact hjn),List.getElem?_eq_getElem _⟩;obtain⟨s1,A1,k1,ca1,B1,l1,cb1,c0,c1,c2,hn1⟩:=(ht j q hq).mono HE.out;obtain⟨s2,A2,k2,ca2,B2,l2,cb2,d0,d1,d2,hn2⟩:=(ht2 j q hq).mono HE.out;have N1:=ZZ hn1;have N2:=ZZ hn2;have BQ:=ZZ (HB.out q (List.mem_of_getElem? hq));have HC:=ZZ (show ∀W,Ext WR W→W.cell? ⟨b,o+j*3,none⟩=some (.bool s1)∧W.cell? ⟨b,o+j*3+1,none⟩=some (.slice A1 k1 ca1)∧W.cell? ⟨b,o+j*3+2,none⟩=some (.slice B1 l1 cb1)∧W.cell? ⟨c,u+j*3,none⟩=some (.int .i64 s2)∧W.cell? ⟨c,u+j*3+1,none⟩=some (.slice A2 k2 ca2)∧W.cell? ⟨c,u+j*3+2,none⟩=some (.slice B2 l2 cb2) from fun W k=>⟨ar k c0,ar k c1,ar k c2,ar k d0,ar k d1,ar k d2⟩);have HZ:=ZZ hz;have HJN:=ZZ hjn;clear hn1 hn2 c0 c1 c2 d0 d1 d2 ht ht2 hq hz hjn
   go_upto_region 6 with (fail)
   refine wp_region_noPanic ?_;refine wp_region_held_drew (S:=fun W=>W.cell? ⟨b,o+j*3,none⟩=some (.bool s1)∧W.cell? ⟨b,o+j*3+1,none⟩=some (.slice A1 k1 ca1)∧W.cell? ⟨b,o+j*3+2,none⟩=some (.slice B1 l1 cb1)∧W.cell? ⟨c,u+j*3,none⟩=some (.int .i64 s2)∧W.cell? ⟨c,u+j*3+1,none⟩=some (.slice A2 k2 ca2)∧W.cell? ⟨c,u+j*3+2,none⟩=some (.slice B2 l2 cb2)) (by kernel_rfl) (HC.out _ (ac _)) (fun hHeld=>?_);refine take_a 0 17 ?_;refine take_a 1 18 ?_;refine take_a 2 19 ?_;refine take_a 3 20 ?_;refine take_a 4 21 ?_;refine take_a 5 22 ?_;refine take_a 6 23 ?_;refine take_a 7 24 ?_;refine call_p (i:=8) (some 25) rfl rfl (by kernel_rfl) (fun K hK=>?_)
   go_simp
   go_at_call 38
   refine(same_c M HM.out _ _ q _ (N1.out.mono (ac _)) (N2.out.mono (ac _)) BQ.out (HT.out.mono (am HE.out (ac _)))).mono ?_;rintro e w5 ⟨rfl,kk5⟩;have K5:=ZZ (show Ext WR w5 from am (ac _) kk5);clear kk5
   try go_wp2_with fail
   refine hK.out _ _ (HC.out _ K5.out) (fun hHeld=>?_);clear hK K
   try simp only [Act.put,lyA,lyB,lyC]
   refine take_a 9 26 ?_;refine wpAnyH_done (by kernel_rfl) ?_ _;refine NoPanic.normal ?_;go_wp2_with fail
   go_roundg (gk - 1)
   case measure=>have:=HZ.out;omega
   case rel=>exact⟨j+1,ZZ (by have:=HJ.out;have:=HZ.out;omega),by have h1:=HL.out;have h2:=HNL.out;have h3:=HJN.out;rw [IntWalk.wrap64_in _ ⟨by omega,by omega⟩];rfl,ZZ (am HE.out K5.out)⟩
end Go.Proofs.YtjamgccgoapbeaaGreatDoor
set_option linter.unusedVariables false
set_option maxRecDepth 100000
set_option maxHeartbeats 64000000
namespace Go.Proofs.YtjamgccgoapbeaaGreatDoor
open Go.RowKit
def OwnQ (w:World) (B:Nat) (v:Value) (l:List Rat):Prop:=∃xs,OwnG w B 62 3 (fun _=>True) v l.length xs∧∀i q,l[i]?=some q→∃s A k ca C m cb,xs[i*3]?=some (.int .i64 s)∧xs[i*3+1]?=some (.slice A k ca)∧xs[i*3+2]?=some (.slice C m cb)∧Nr w (.agg #[.int .i64 s,.slice A k ca,.slice C m cb]) q∧BlN (fun b=>v.ownBlock≠some b) (.agg #[.int .i64 s,.slice A k ca,.slice C m cb])
theorem OwnQ.nil (w:World) (B:Nat):OwnQ w B (.slice none 0 0) []:=⟨[],OwnG.nil w B _ _ _,fun i q h=>by cases h⟩
theorem OwnQ.mono {w w':World} {B:Nat} {v:Value} {l:List Rat} (h:OwnQ w B v l) (k:Ext w w'):OwnQ w' B v l:=by
 obtain⟨xs,h1,h2⟩:=h;refine⟨xs,h1.mono k,fun i q hq=>?_⟩;obtain⟨s,A,n,ca,C,m,cb,x0,x1,x2,hn,hb⟩:=h2 i q hq;exact⟨s,A,n,ca,C,m,cb,x0,x1,x2,hn.mono k,hb⟩
theorem OwnQ.pl {w:World} {B:Nat} {v:Value} {l:List Rat} (h:OwnQ w B v l):PlR w v l:=by
 obtain⟨xs,⟨hlen,h2⟩,hx⟩:=h
 rcases h2 with ⟨rfl,h0⟩|⟨g,cap,cur,rfl,-,hg,hc,-,-,ht,-⟩
 ·rw [List.length_eq_zero_iff.1 h0];exact PlR.nil w
 ·refine⟨_,cap,rfl,hc,.inr ⟨g,0,rfl,fun i q hq=>?_⟩⟩
  obtain⟨s,A,k,ca,C,m,cb,x0,x1,x2,hn,-⟩:=hx i q hq
  have key:∀(j:Nat) (u:Value),xs[j]?=some u→w.cell? ⟨g,j,none⟩=some u:=fun j u hu=>by
   rw [cell_of_row w g j _ _ _ hg];rw [←ht,List.getElem?_take] at hu
   split at hu
   ·simpa using hu
   ·cases hu
  rw [Nat.zero_add];exact⟨s,A,k,ca,C,m,cb,key _ _ x0,key _ _ x1,key _ _ x2,hn⟩
theorem OwnQ.snoc {w w':World} {B:Nat} {v v':Value} {l:List Rat} {xs:List Value} {q:Rat} {s:Int} {A C:Option Addr} {k ca m cb:Nat} (hown:OwnG w B 62 3 (fun _=>True) v l.length xs) (hx:∀i q,l[i]?=some q→∃s A k ca C m cb,xs[i*3]?=some (.int .i64 s)∧xs[i*3+1]?=some (.slice A k ca)∧xs[i*3+2]?=some (.slice C m cb)∧Nr w (.agg #[.int .i64 s,.slice A k ca,.slice C m cb]) q∧BlN (fun b=>v.ownBlock≠some b) (.agg #[.int .i64 s,.slice A k ca,.slice C m cb])) (hq:Nr w (.agg #[.int .i64 s,.slice A k ca,.slice C m cb]) q) (hb:BlN (fun b=>v.ownBlock≠some b) (.agg #[.int .i64 s,.slice A k ca,.slice C m cb])) (hg:w.grownBy w' v.ownBlock) (ho:v'.ownBlock=v.ownBlock∨v'.ownBlock=some w.heap.size) (h:OwnG w' B 62 3 (fun _=>True) v' (l.length+1) (xs ++ [.int .i64 s,.slice A k ca,.slice C m cb])):OwnQ w' B v' (l ++ [q]):=by
 have keep:∀ {u:Value} {r:Rat},Nr w u r→BlN (fun b=>v.ownBlock≠some b) u→Nr w' u r∧BlN (fun b=>v'.ownBlock≠some b) u:=fun {u r} hn hbl=>by
  refine⟨hn.keepB (hn.old.both hbl) (fun b hb=>hg.block b hb.1 (fun e=>hb.2 e.symm)),?_⟩
  rcases ho with e|e
  ·rw [e];exact hbl
  ·rw [e];exact hn.old.imp (fun b hb e=>by injection e with e;omega)
 refine⟨_,by rw [List.length_append];exact h,fun i r hr=>?_⟩;have hxl:=hown.1
 rcases Nat.lt_or_ge i l.length with hi|hi
 ·rw [List.getElem?_append_left hi] at hr
  obtain⟨s1,A1,k1,ca1,C1,m1,cb1,x0,x1,x2,hn,hbl⟩:=hx i r hr;obtain⟨n1,n2⟩:=keep hn hbl;exact⟨s1,A1,k1,ca1,C1,m1,cb1,by rw [List.getElem?_append_left (by omega)];exact x0,by rw [List.getElem?_append_left (by omega)];exact x1,by rw [List.getElem?_append_left (by omega)];exact x2,n1,n2⟩
 ·rw [List.getElem?_append_right hi] at hr
  have hi0:i - l.length=0:=by
   rcases Nat.eq_zero_or_pos (i - l.length) with e|e
   ·exact e
   ·obtain⟨d,hd⟩:∃d,i - l.length=d+1:=⟨i - l.length - 1,by omega⟩
    rw [hd] at hr;simp at hr
  rw [hi0] at hr;obtain rfl:q=r:=Option.some.inj hr;obtain rfl:i=l.length:=by omega
  obtain⟨n1,n2⟩:=keep hq hb;refine⟨s,A,k,ca,C,m,cb,?_,?_,?_,n1,n2⟩
  ·rw [List.getElem?_append_right (by omega),show l.length*3 - xs.length=0 by omega];rfl
  ·rw [List.getElem?_append_right (by omega),show l.length*3+1 - xs.length=1 by omega];rfl
  ·rw [List.getElem?_append_right (by omega),show l.length*3+2 - xs.length=2 by omega];rfl
end Go.Proofs.YtjamgccgoapbeaaGreatDoor
