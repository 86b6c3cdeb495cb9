/- Texts: engineering texts, read. A store of a number into a row of the call's own. Sums of polynomials, plain: what out holds after j rounds. The reference's natural numbers: a shift to the left. -/
import Derived.Test.YtaaoleakkaloeaaGreatDoorGTg
import Derived.Test.YtaaoleakkaloeaaGreatDoorGQp
import Derived.Test.YtaaoleakkaloeaaGreatDoorGTd
import Derived.Deep.DeepCutAuto
import Derived.Deep.MidRow
import Derived.Deep.LoopGhost
import Derived.Test.YtaaoleakkaloeaaGreatDoorGTc
import Derived.Test.YtaaoleakkaloeaaGreatDoorGWj
import Derived.Test.YtaaoleakkaloeaaGreatDoorGTf
set_option linter.unusedVariables false
set_option maxRecDepth 100000
set_option maxHeartbeats 64000000
namespace Go.Proofs.YtaaoleakkaloeaaGreatDoor
open Go.RowKit
def pfxs:List (List UInt8 × Int):=[([102],-15),([112],-12),([110],-9),([117],-6),([109],-3),([],0),([107],3),([77],6),([71],9),([84],12)]
def Pfx (w:World):Prop:=∀i,i<20→w.cell? ⟨0,i,none⟩=((pfxs.map fun p=>[Value.string ⟨p.1.toArray⟩,.int .i64 p.2]).flatten)[i]?
theorem Pfx.mono {w w':World} (h:Pfx w) (k:Ext w w'):Pfx w':=fun i hi=>by
 have h1:=h i hi;rw [←h1]
 have hl:i<((pfxs.map fun p=>[Value.string ⟨p.1.toArray⟩,.int .i64 p.2]).flatten).length:=by
  have:((pfxs.map fun p=>[Value.string ⟨p.1.toArray⟩,.int .i64 p.2]).flatten).length=20:=rfl
  omega
 rw [List.getElem?_eq_getElem hl] at h1;exact(ao k h1).trans h1.symm
theorem Pfx.cells {w:World} (h:Pfx w):w.cell? ⟨0,0,none⟩=some (.string ⟨#[102]⟩)∧w.cell? ⟨0,1,none⟩=some (.int .i64 (-15))∧w.cell? ⟨0,2,none⟩=some (.string ⟨#[112]⟩)∧w.cell? ⟨0,3,none⟩=some (.int .i64 (-12))∧w.cell? ⟨0,4,none⟩=some (.string ⟨#[110]⟩)∧w.cell? ⟨0,5,none⟩=some (.int .i64 (-9))∧w.cell? ⟨0,6,none⟩=some (.string ⟨#[117]⟩)∧w.cell? ⟨0,7,none⟩=some (.int .i64 (-6))∧w.cell? ⟨0,8,none⟩=some (.string ⟨#[109]⟩)∧w.cell? ⟨0,9,none⟩=some (.int .i64 (-3))∧w.cell? ⟨0,10,none⟩=some (.string ⟨#[]⟩)∧w.cell? ⟨0,11,none⟩=some (.int .i64 0)∧w.cell? ⟨0,12,none⟩=some (.string ⟨#[107]⟩)∧w.cell? ⟨0,13,none⟩=some (.int .i64 3)∧w.cell? ⟨0,14,none⟩=some (.string ⟨#[77]⟩)∧w.cell? ⟨0,15,none⟩=some (.int .i64 6)∧w.cell? ⟨0,16,none⟩=some (.string ⟨#[71]⟩)∧w.cell? ⟨0,17,none⟩=some (.int .i64 9)∧w.cell? ⟨0,18,none⟩=some (.string ⟨#[84]⟩)∧w.cell? ⟨0,19,none⟩=some (.int .i64 12):=
 ⟨h 0 (by omega),h 1 (by omega),h 2 (by omega),h 3 (by omega),h 4 (by omega),h 5 (by omega),h 6 (by omega),h 7 (by omega),h 8 (by omega),h 9 (by omega),h 10 (by omega),h 11 (by omega),h 12 (by omega),h 13 (by omega),h 14 (by omega),h 15 (by omega),h 16 (by omega),h 17 (by omega),h 18 (by omega),h 19 (by omega)⟩
end Go.Proofs.YtaaoleakkaloeaaGreatDoor
set_option linter.unusedVariables false
set_option maxRecDepth 100000
set_option maxHeartbeats 64000000
namespace Go.Proofs.YtaaoleakkaloeaaGreatDoor
open Go.RowKit
theorem row_set {W:World} {g j:Nat} {cs:Array Value} {T:TypeId} (h:W.heap[g]?=some (.cells cs T (0,0))) (v:Value):(W.setCell ⟨g,j,none⟩ v).heap[g]?=some (.cells (cs.setIfInBounds j v) T (0,0)):=by
 simp only [World.setCell,Array.getElem?_modify,h]
 simp
theorem frozen_row {W:World} {g:Nat} {cs:Array Value} {T:TypeId} (h:W.heap[g]?=some (.cells cs T (0,0))) (j:Nat):W.frozen? ⟨g,j,none⟩=false:=by
 simp [World.frozen?,h]
def put3at (W:World) (g j:Nat) (a b c:Value):World:=((W.setCell ⟨g,j,none⟩ a).setCell ⟨g,j+1,none⟩ b).setCell ⟨g,j+2,none⟩ c
theorem put3at_row {W:World} {g j:Nat} {cs:Array Value} {T:TypeId} (h:W.heap[g]?=some (.cells cs T (0,0))) (a b c:Value):(put3at W g j a b c).heap[g]?=some (.cells (((cs.setIfInBounds j a).setIfInBounds (j+1) b).setIfInBounds (j+2) c) T (0,0)):=
 row_set (row_set (row_set h a) b) c
theorem put3at_cell {W:World} {g j:Nat} {cs:Array Value} {T:TypeId} (h:W.heap[g]?=some (.cells cs T (0,0))) (a b c:Value) (b' i:Nat) (hne:b'≠g∨(i≠j∧i≠j+1∧i≠j+2)):(put3at W g j a b c).cell? ⟨b',i,none⟩=W.cell? ⟨b',i,none⟩:=by
 by_cases hb:b'=g
 ·subst hb
  obtain⟨h1,h2,h3⟩:=hne.resolve_left (fun e=>e rfl);rw [cell_of_row _ b' i _ _ _ (put3at_row h a b c),cell_of_row _ b' i _ _ _ h];rw [Array.getElem?_setIfInBounds_ne (Ne.symm h3),Array.getElem?_setIfInBounds_ne (Ne.symm h2),Array.getElem?_setIfInBounds_ne (Ne.symm h1)]
 ·refine World.cell?_of_block ?_
  unfold put3at;rw [Below.heap_setCell _ _ _ _ hb,Below.heap_setCell _ _ _ _ hb,Below.heap_setCell _ _ _ _ hb]
theorem put3at_new {W:World} {g j:Nat} {cs:Array Value} {T:TypeId} (h:W.heap[g]?=some (.cells cs T (0,0))) (hj:j+2<cs.size) (a b c:Value):(put3at W g j a b c).cell? ⟨g,j,none⟩=some a∧(put3at W g j a b c).cell? ⟨g,j+1,none⟩=some b∧(put3at W g j a b c).cell? ⟨g,j+2,none⟩=some c:=by
 have hr:=put3at_row h a b c (j:=j);refine⟨?_,?_,?_⟩
 ·rw [cell_of_row _ g j _ _ _ hr,Array.getElem?_setIfInBounds_ne (by omega),Array.getElem?_setIfInBounds_ne (by omega),Array.getElem?_setIfInBounds_self_of_lt (by omega)]
 ·rw [cell_of_row _ g (j+1) _ _ _ hr,Array.getElem?_setIfInBounds_ne (by omega),Array.getElem?_setIfInBounds_self_of_lt (by simp;omega)]
 ·rw [cell_of_row _ g (j+2) _ _ _ hr,Array.getElem?_setIfInBounds_self_of_lt (by simp;omega)]
theorem Nm.put3at {W:World} {v u:Value} {q:Rat} {g i:Nat} {l:List Rat} (h:Nm W v q) (ho:PlO W g u l) (hi:i<l.length) (a b c:Value):Nm (put3at W g (i*3) a b c) v q:=by
 obtain⟨cap,cur,-,hh,-⟩:=id ho;refine h.keepC ho.noU fun b' j hne=>put3at_cell hh a b c b' j ?_
 rcases hne with hne|hne
 ·exact .inl hne
 ·exact .inr (by omega)
theorem PlO.set {W:World} {g i:Nat} {v:Value} {l:List Rat} {q:Rat} {s:Bool} {A C:Option Addr} {k ca m cb:Nat} (h:PlO W g v l) (hi:i<l.length) (hq:Nm W (.agg #[.bool s,.slice A k ca,.slice C m cb]) q):PlO (put3at W g (i*3) (.bool s) (.slice A k ca) (.slice C m cb)) g v (l.set i q):=by
 obtain⟨cap,cur,e,hh,h1,h2,h3,h4⟩:=id h;have hsz:i*3+2<cur.size:=by rw [h3];omega
 refine⟨cap,_,by rw [List.length_set];exact e,put3at_row hh _ _ _,by rw [List.length_set];exact h1,h2,by simpa using h3,fun j r hr=>?_⟩
 by_cases hj:i=j
 ·subst hj
  rw [List.getElem?_set_self hi] at hr;obtain rfl:q=r:=Option.some.inj hr;obtain⟨n0,n1,n2⟩:=put3at_new hh hsz (.bool s) (.slice A k ca) (.slice C m cb);exact⟨s,A,k,ca,C,m,cb,n0,n1,n2,hq.put3at h hi _ _ _⟩
 ·rw [List.getElem?_set_ne hj] at hr
  obtain⟨s1,A1,k1,ca1,C1,m1,cb1,c0,c1,c2,hn⟩:=h4 j r hr;exact⟨s1,A1,k1,ca1,C1,m1,cb1,by rw [put3at_cell hh _ _ _ g _ (.inr (by omega))];exact c0,by rw [put3at_cell hh _ _ _ g _ (.inr (by omega))];exact c1,by rw [put3at_cell hh _ _ _ g _ (.inr (by omega))];exact c2,hn.put3at h hi _ _ _⟩
end Go.Proofs.YtaaoleakkaloeaaGreatDoor
set_option linter.unusedVariables false
set_option maxRecDepth 100000
set_option maxHeartbeats 64000000
namespace Go.Proofs.YtaaoleakkaloeaaGreatDoor
def stepL (p q:List Rat) (j:Nat):List Rat:=(List.range p.length).map fun i=>if i<j then co p i+co q i else co p i
theorem stepL_len (p q:List Rat) (j:Nat):(stepL p q j).length=p.length:=by simp [stepL]
theorem stepL_get (p q:List Rat) (j:Nat) {i:Nat} (hi:i<p.length):(stepL p q j)[i]?=some (if i<j then co p i+co q i else co p i):=by
 unfold stepL;rw [List.getElem?_map,List.getElem?_range hi];rfl
theorem stepL_zero (p q:List Rat):stepL p q 0=p:=by
 apply List.ext_getElem?
 intro i
 rcases Nat.lt_or_ge i p.length with hi|hi
 ·rw [stepL_get p q 0 hi,if_neg (Nat.not_lt_zero _)]
  unfold co;rw [List.getElem?_eq_getElem hi];rfl
 ·rw [List.getElem?_eq_none hi,List.getElem?_eq_none (by rw [stepL_len];exact hi)]
theorem stepL_succ (p q:List Rat) {j:Nat} (hj:j<p.length):(stepL p q j).set j (co p j+co q j)=stepL p q (j+1):=by
 apply List.ext_getElem?
 intro i
 rcases Nat.lt_or_ge i p.length with hi|hi
 ·rw [stepL_get p q (j+1) hi]
  by_cases e:j=i
  ·subst e
   rw [List.getElem?_set_self (by rw [stepL_len];exact hi),if_pos (Nat.lt_succ_self _)]
  ·rw [List.getElem?_set_ne e,stepL_get p q j hi]
   by_cases h:i<j
   ·rw [if_pos h,if_pos (Nat.lt_succ_of_lt h)]
   ·rw [if_neg h,if_neg (by omega)]
 ·rw [List.getElem?_eq_none (by rw [List.length_set,stepL_len];exact hi),List.getElem?_eq_none (by rw [stepL_len];exact hi)]
theorem co_step (p q:List Rat) (h:q.length≤p.length) (i:Nat):co (stepL p q q.length) i=co p i+co q i:=by
 rcases Nat.lt_or_ge i p.length with hi|hi
 ·show ((stepL p q q.length)[i]?).getD 0=_
  rw [stepL_get p q _ hi]
  show (if i<q.length then co p i+co q i else co p i)=_
  by_cases hq:i<q.length
  ·rw [if_pos hq]
  ·rw [if_neg hq,co_ge (p:=q) (by omega)];grind
 ·rw [co_ge (by rw [stepL_len];exact hi),co_ge hi,co_ge (p:=q) (by omega)];grind
def addF (p q:List Rat):List Rat:=trimF (zipA p q)
theorem addF_comm (p q:List Rat):addF p q=addF q p:=trim_co fun i=>by rw [co_zip,co_zip];grind
theorem addF_step (p q:List Rat) (h:q.length≤p.length):trimF (stepL p q q.length)=addF p q:=trim_co fun i=>by rw [co_step p q h,co_zip]
end Go.Proofs.YtaaoleakkaloeaaGreatDoor
set_option linter.unusedVariables false
set_option maxRecDepth 100000
set_option maxHeartbeats 64000000
namespace Go.Proofs.YtaaoleakkaloeaaGreatDoor
open Go.RowKit
theorem mk_room (n c:Nat) (y z:Int) (hz:z=(n:Int)) (hy:y=(c:Int)) (hnc:n≤c) (hn:c≤35184372088832) (w:World):(Instr.makeSlice 67 (.int .i64 z) (.int .i64 y)).run Tryz.prog w=.ok (.slice (some ⟨w.heap.size,0,none⟩) n c) (w.alloc (.cells ((zs c).map i64n).toArray 2)):=by
 subst hz hy;obtain⟨i,hi,h1,h2,h3⟩:=info_parts info_i64;have h:=run_make (P:=Tryz.prog) w 67 2 i (.int .i64 0) Tryz.underlying67 hi h1 .i64 .i64 (n:Int) (c:Int) (by omega) (by omega) (by rw [h3];omega) (by omega);rw [h]
 have e:madeCells (Value.int .i64 0).cells (c*i.size)=((zs c).map i64n).toArray:=by
  rw [h2,Nat.mul_one]
  have:=toList_madeCells_one (.int .i64 0) c
  have h':(madeCells (Value.int .i64 0).cells c).toList=(zs c).map i64n:=by
   rw [show (Value.int .i64 0).cells=#[Value.int .i64 0] from rfl,this];simp [zs,i64n]
  rw [←h']
 simp only [Int.toNat_natCast,e]
theorem own_new (w:World) (n c:Nat) (hnc:n≤c) (hc:c≤maxLen):(w.alloc (.cells ((zs c).map i64n).toArray 2)).ownsRow w.heap.size 2 1 (.slice (some ⟨w.heap.size,0,none⟩) n c) n ((zs n).map i64n):=by
 refine⟨by simp [zs],.inr ⟨w.heap.size,c,_,rfl,Nat.le_refl _,heap_alloc_new w _,hnc,hc,by simp [zs],?_⟩⟩
 simp [zs,List.take_replicate,Nat.min_eq_left hnc]
theorem own_cl {w:World} {B n:Nat} {v:Value} {l:List Nat} (h:w.ownsRow B 2 1 v n (l.map i64n)):∃A c,v=.slice A n c∧n≤c∧l.length=n∧Cl w A (l.map i64n):=by
 obtain⟨h1,h2⟩:=h
 simp at h1
 rcases h2 with ⟨rfl,rfl⟩|⟨g,cap,cur,rfl,hb,hg,hn,hm,hs,ht⟩
 ·exact⟨none,0,rfl,Nat.le_refl _,h1,by rw [List.length_eq_zero_iff.1 h1];exact .inl rfl⟩
 ·refine⟨_,_,rfl,hn,h1,cl_block hg fun j hj=>?_⟩
  rw [Nat.mul_one] at ht;have hj':j<n:=by simp at hj;omega
  rw [←ht,List.getD_eq_getElem?_getD,List.getElem?_take,if_pos hj',Nat.zero_add,←Array.getElem?_toList]
  have:j<cur.size:=by omega
  simp [Array.getElem?_eq_getElem this]
theorem left_step {F B P R V cy x d c':Nat} (h:R+P*cy=V*F) (hs:d+B*c'=cy+x*F):(R+P*d)+P*B*c'=(V+P*x)*F:=by
 have h1:P*(d+B*c')=P*(cy+x*F):=by rw [hs]
 grind
theorem left_carry {F x cy d c':Nat} (hx:x<1073741824) (hc:cy<F) (hF:F≤536870912) (h:d+B30*c'=cy+x*F):c'<F∧cy+x*F<576460752303423488:=by
 have h1:x*F≤1073741823*F:=Nat.mul_le_mul_right _ (by omega);rw [B30_eq] at h;omega
theorem own_any {A:Option Addr} {n m c d:Nat}:(Value.slice A n c).ownBlock=(Value.slice A m d).ownBlock:=by cases A <;> rfl
theorem left_f (va:Value) (n k:Nat) (hk:k≤1099511627776) (w:World) (ha:Wr w va n) (sa:Sr n):Calls Tryz.prog 113 #[va,.int .i64 k] w fun e w'=>∃v,e=.returned v∧Wr w' v (n*2 ^ k)∧Ext w w'∧Fr w.heap.size v:=by
 obtain⟨A,ca,rfl,hca,hA⟩:=ha;unfold Sr at sa;have en:=num_dr n;have nl:=dr_lt n;generalize dr n=l at *;obtain⟨s,e,hse,he⟩:∃s e:Nat,k=30*s+e∧e<30:=⟨k / 30,k % 30,by omega,by omega⟩;have hq:(k:Int) / 30=(s:Int):=by omega
 have hr:(k:Int) % 30=(e:Int):=by omega
 have hwq:IntKind.i64.wrap (s:Int)=(s:Int):=IntWalk.i64_in _ (by omega);have hsb:s≤1099511627776:=by omega
 have HSE:=ZZ hse;have En:=ZZ en;have Nl:=ZZ nl;clear en nl hse;obtain⟨F,G,hF,hF0,hG0,hFG,hFb,hG⟩:=pow_split e he;have hF':((2:Int) ^ e)=(F:Int):=by rw [hF];push_cast;rfl
 have hsh:IntKind.i64.wrap ((2:Int) ^ e)=(F:Int):=by rw [hF'];exact IntWalk.i64_in _ (by omega)
 have hu:IntKind.u64.wrap (e:Int)=(e:Int):=IntWalk.u64_in _ (by omega);have HF:=ZZ hF;obtain⟨i0,hi,hz0,hz1,hz2⟩:=info_parts info_i64;have hmk:=mk_room s (l.length+s+1) ((l.length:Int)+(s:Int)+1) (s:Int) rfl (by omega) (by omega) (by omega);have hw1:IntKind.i64.wrap ((l.length:Int)+(s:Int))=(l.length:Int)+(s:Int):=IntWalk.i64_in _ (by omega);have hw2:IntKind.i64.wrap ((l.length:Int)+(s:Int)+1)=(l.length:Int)+(s:Int)+1:=IntWalk.i64_in _ (by omega);clear hF hF' hFG hG hG0
 go_enter Tryz.func113,Tryz.ntmps113
 go_wp2_with fail;clear hmk hw1 hw2 hq hr hwq hsh hu
 go_loopw [5,7,8] (fun p c i wr=>∃(t cy:Nat) (xs:List Nat),t≤l.length∧i=.int .i64 t∧c=.int .i64 cy∧cy<F∧xs.length=t∧(∀d ∈ xs,d<B30)∧Hid (wr.ownsRow w.heap.size 2 1 p (s+t) ((zs s ++ xs).map i64n))∧Ext w wr∧num B30 xs+B30 ^ t*cy=num B30 (l.take t)*F) (fun _ _ i _=>l.length - (intOf i).toNat)
 case atStart=>exact⟨0,0,[],Nat.zero_le _,rfl,rfl,hF0,rfl,by simp,by simpa using ZZ (own_new w s (l.length+s+1) (by omega) (by unfold maxLen;omega)),ac _ _,by simp⟩
 case round=>
  obtain⟨t,cy,xs,ht,rfl,rfl,hcy,hxl,hxb,HOWN,hext,hnum⟩:=hrel;have Hxl:=ZZ hxl;have Hxb:=ZZ hxb;have HEX:=ZZ hext;have Hnum:=ZZ hnum;clear hxl hxb hnum hext;have H63:=ZZ (show s+t+1≤maxLen by unfold maxLen;omega);have HBY:=ZZ (show (s+t+1)*8≤140737488355328 by omega);have HWS:=ZZ (show w.heap.size≤wr.heap.size+1 from Nat.le_succ_of_le HEX.out.size);have HWZ:=ZZ (show w.heap.size≤wr.heap.size from HEX.out.size)
  by_cases hlt:t<l.length
  ·obtain⟨b,o,rfl,hc⟩:=hA.i (by omega)
   have ea:=ao HEX.out (hc t hlt);have hxb:=getD_lt Nl.out (by rw [B30_eq];omega) t;have HTT:=ZZ (num_take_le B30 l t);rw [B30_eq] at hxb;clear hc hA;generalize l.getD t 0=x at *;obtain⟨p,hp⟩:∃p:Nat,p=x*F:=⟨_,rfl⟩;obtain⟨sm,hsm⟩:∃sm:Nat,sm=cy+p:=⟨_,rfl⟩;obtain⟨d,c',hd,hdc,hd1,hc1'⟩:=split30 sm;have HDC:=ZZ (show d+B30*c'=cy+x*F by rw [hdc,hsm,hp]);obtain⟨hcb,hsb'⟩:=left_carry hxb hcy hFb HDC.out;have hsmb:sm<576460752303423488:=by rw [hsm,hp];exact hsb'
   have hw1:IntKind.i64.wrap ((x:Int)*(F:Int))=(p:Int):=by
    rw [show (x:Int)*(F:Int)=(p:Int) by rw [hp];push_cast;rfl];exact IntWalk.i64_in _ (by omega)
   have hw2:IntKind.i64.wrap ((cy:Int)+(p:Int))=(sm:Int):=(IntWalk.i64_in _ (by omega)).trans (by omega);have hrem:(sm:Int) % 1073741824=(d:Int):=by omega
   have hquo:(sm:Int) / 1073741824=(c':Int):=by omega
   have Hd:=ZZ hd;have HCB:=ZZ hcb;have hcb2:c'≤1073741824:=by omega
   rw [B30_eq] at hd
   have HST:=ZZ (show num B30 (xs ++ [d])+B30 ^ (t+1)*c'=num B30 (l.take (t+1))*F by
    rw [num_snoc,Hxl.out,HTT.out,Nat.pow_succ];exact left_step Hnum.out HDC.out)
   clear hp hsm hdc hd1 hc1' hsb'
   go_wp2_with (at_builtin;refine wpList_append_own_at _ rfl _ _ 67 rfl w.heap.size 2 i0 (.int .i64 0) 1 8 Tryz.underlying67 hi hz0 hz1 hz2 rfl (by decide) _ _ _ rfl (HOWN.out.alloc _) ⟨wr.heap.size,0,none⟩ 1 1 [.int .i64 (d:Int)] rfl rfl (cell_one_new _ _ _) (by intro u hu;simp at hu;subst hu;rfl) H63.out HBY.out (by have:=HWS.out;simpa using this) ?_;intro v' w3 hown3 hgrow hnil hloc)
   have HE3:=ZZ (show Ext w w3 from (al HEX.out (ac wr _)).grown hgrow (by have:=HWS.out;simpa using this) (fun k hk=>(own_lt HOWN.out hk).1));have HO3:=ZZ hown3;clear hown3 hgrow hnil hloc;go_wp2_with fail
   go_roundw
   case rel=>exact⟨t+1,c',xs ++ [d],by omega,by first|rfl|go_num,rfl,HCB.out,by rw [List.length_append,Hxl.out];rfl,by intro z hz;rcases List.mem_append.1 hz with h|h;exact Hxb.out z h;rw [List.mem_singleton.1 h];exact Hd.out,by have:=HO3.out;rw [←List.append_assoc,List.map_append];exact ZZ this,HE3.out,HST.out⟩
   case measure=>simp [intOf];omega
  ·have htm:t=l.length:=by omega
   go_wp2_with (at_builtin;refine wpList_append_own_at _ rfl _ _ 67 rfl w.heap.size 2 i0 (.int .i64 0) 1 8 Tryz.underlying67 hi hz0 hz1 hz2 rfl (by decide) _ _ _ rfl (HOWN.out.alloc _) ⟨wr.heap.size,0,none⟩ 1 1 [.int .i64 (cy:Int)] rfl rfl (cell_one_new _ _ _) (by intro u hu;simp at hu;subst hu;rfl) H63.out HBY.out (by have:=HWS.out;simpa using this) ?_;intro v' w3 hown3 hgrow hnil hloc)
   have HE3:=ZZ (show Ext w w3 from (al HEX.out (ac wr _)).grown hgrow (by have:=HWS.out;simpa using this) (fun k hk=>(own_lt HOWN.out hk).1));have hown4:w3.ownsRow w.heap.size 2 1 v' (s+t+1) ((zs s ++ xs ++ [cy]).map i64n):=by rw [List.map_append];exact hown3
   obtain⟨A3,c3,rfl,hn3,hl3,hcl3⟩:=own_cl hown4;have HFR:=ZZ (show Fr w.heap.size (.slice A3 (s+t+1) c3) from fun b hb=>(own_lt hown4 hb).1);have HCL:=ZZ hcl3;have HL3:=ZZ hl3;have HN3:=ZZ hn3
   have HYB:=ZZ (show ∀z ∈ zs s ++ xs ++ [cy],z<B30 from fun z hz=>by
    rcases List.mem_append.1 hz with h|h
    ·rcases List.mem_append.1 h with h|h
     ·exact zs_lt (by rw [B30_eq];omega) s z h
     ·exact Hxb.out z h
    ·rw [List.mem_singleton.1 h,B30_eq];omega)
   clear hown3 hown4 hgrow hnil hloc hn3 hl3 hcl3;go_wp2_with fail;refine(rcut_c _ (zs s ++ xs ++ [cy]) _ _ HCL.out (s+t+1) HL3.out HN3.out (by omega)).mono ?_;rintro e w2 ⟨rfl,rfl⟩;go_wp2_with fail;go_ret;refine⟨_,rfl,?_,HE3.out,fun b hb=>HFR.out b (own_any.trans hb)⟩;have h2:=rcut_w HYB.out HCL.out (c:=c3) (by rw [HL3.out];exact HN3.out);have h1:=Hnum.out;rw [num_take_all B30 l (by omega),En.out] at h1
   have h3:num B30 (zs s ++ xs ++ [cy])=n*2 ^ k:=by
    rw [List.append_assoc,num_append,show num B30 (zs s)=0 from num_replicate_zero _ _,zs_length,num_snoc,Hxl.out,h1,HSE.out,Nat.pow_add,←B30_pow,HF.out,Nat.zero_add]
    grind
   rw [h3,List.append_assoc] at h2;exact h2
theorem left_r (va:Value) (n k:Nat) (hk:k≤1099511627776) (w:World) (ha:Wr w va n) (sa:Sr n):Calls Tryz.prog 113 #[va,.int .i64 k] w fun e w'=>∃v,e=.returned v∧Wr w' v (n*2 ^ k)∧Ext w w':=(left_f va n k hk w ha sa).mono fun e w' ⟨v,h1,h2,h3,_⟩=>⟨v,h1,h2,h3⟩
end Go.Proofs.YtaaoleakkaloeaaGreatDoor
