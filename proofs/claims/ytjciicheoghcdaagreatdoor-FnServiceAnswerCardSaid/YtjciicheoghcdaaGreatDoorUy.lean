/- Part of the proof of FnServiceAnswer. -/
import Derived.Test.YtjciicheoghcdaaGreatDoorUx
namespace Go.Proofs.YtjciicheoghcdaaGreatDoor
open Go.RowKit Go.Proofs.Tryz
set_option linter.all false
set_option maxRecDepth 20000
set_option maxHeartbeats 16000000
def ZS (n:Nat):Obj:= .cells (madeCells #[.string ByteArray.empty] n) 9
theorem ui (n:Nat) (hn:n<=1048576) (w:World):(Instr.makeSlice 48 (.int .i64 (n:Int)) (.int .i64 (n:Int))).run prog w= .ok (.slice (some ⟨w.heap.size,0,none⟩) n n) (w.alloc (ZS n)):=by
 obtain⟨i,hi,hz,h1,h8⟩:=info_parts mQ;have h:=run_make (P:=prog) w 48 9 i _ underlying48 hi hz .i64 .i64 (n:Int) (n:Int) (by omega) (Int.le_refl _) (by rw[h8];omega) (by omega)
 rw[h,h1];simp only[Int.toNat_natCast,Nat.mul_one]
 rfl
theorem VO.Cl (w:World) (n:Nat) (hn:n<=1048576):VO (w.alloc (ZS n)) w.heap.size 9 1 (some ⟨w.heap.size,0,none⟩) n n (List.replicate n (.string ByteArray.empty)):=by
 have h:=World.ownsRow_lit (base:=w.heap.size) (e:=9) (size:=1) w (madeCells #[.string ByteArray.empty] n) n Ql (by unfold maxLen;omega) (by simp[size_madeCells])
 have e:(madeCells #[.string ByteArray.empty] n).toList=List.replicate n (Value.string ByteArray.empty):=by rw[toList_madeCells_one]
 rw[e] at h
 exact h
def sf (f:Nat->List UInt8) (n k:Nat):List Value:=(List.range k).map (fun i=>Value.string (bs (f i)))++List.replicate (n-k) (.string ByteArray.empty)
theorem ur (f:Nat->List UInt8) (n:Nat):sf f n 0=List.replicate n (.string ByteArray.empty):=by simp[sf]
theorem xd (f:Nat->List UInt8) (n k:Nat) (h:k<n):(sf f n k).set k (.string (bs (f k)))=sf f n (k+1):=by
 unfold sf;have e:n-k=(n-(k+1))+1:=by omega
 rw[List.set_append_right _ _ (by simp),List.range_succ,List.map_append,List.append_assoc]
 simp only[List.length_map,List.length_range,Nat.sub_self];rw[e,List.replicate_succ]
 rfl
theorem zu (f:Nat->List UInt8) (n k:Nat) (h:k<n):(sf f n k)[k]?=some (.string ByteArray.empty):=by
 unfold sf;rw[List.getElem?_append_right (by simp),List.getElem?_replicate]
 simp
 omega
theorem uq (f:Nat->List UInt8) (n:Nat):sf f n n=strs ((List.range n).map f):=by
 unfold sf strs;rw[Nat.sub_self,List.replicate_zero,List.append_nil,List.map_map]
 rfl
theorem rM (l:List (List UInt8)) (sep:List UInt8) (m:Nat) (h:∀ x∈l,x.length<=m):(Lib.join l sep).length<=l.length*(m+sep.length):=by
 have key:∀ l:List (List UInt8),(∀ x∈l,x.length<=m)->(Lib.joinTail sep l).length<=l.length*(m+sep.length):=by
  intro l
  induction l with
  | nil=>intro _;simp[Lib.joinTail]
  | cons a l ih =>
   intro h;have h1:=ih (fun x hx=>h x (List.mem_cons_of_mem _ hx))
   have h2:=h a (List.mem_cons_self ..);simp only[Lib.joinTail,List.map_cons,List.flatten_cons,List.length_append,List.length_cons] at h1 ⊢;rw[Nat.succ_mul]
   omega
 cases l with
 | nil=>simp[Lib.join,List.intercalate]
 | cons a l =>
  have h1:=key l (fun x hx=>h x (List.mem_cons_of_mem _ hx))
  have h2:=h a (List.mem_cons_self ..);rw[Lib.join_cons,List.length_append,List.length_cons,Nat.succ_mul]
  omega
theorem rt_eq (v:List Int) (C k:Nat) (h:k*C+C<=v.length):rt v C k=Lib.join ((List.range C).map fun i=>fx (v.getD (k*C+i) 0)) [32]:=by
 unfold rt
 congr 1
 apply List.ext_getElem
 ·simp;omega
 ·intro i h1 h2;have hi:i<C:=by simpa using h2
  have e1:(v.getD (k*C+i) 0)=v[k*C+i]'(by omega):=by rw[List.getD_eq_getElem?_getD,List.getElem?_eq_getElem (by omega)];rfl
  simp only[List.getElem_map,List.getElem_take,List.getElem_drop,List.getElem_range,e1]
theorem wT (v:List Int) (C k:Nat) (hC:C<=5):(rt v C k).length<=5*302:=by
 unfold rt;refine Nat.le_trans (rM _ [32] 301 (fun x hx=>?_)) ?_
 ·obtain⟨y,_,rfl⟩:=List.mem_map.1 hx
  exact sU y
 ·simp only[List.length_map,List.length_cons,List.length_nil]
  exact Nat.mul_le_mul_right _ (by rw[List.length_take];omega)
theorem vX (r c k a:Nat) (b off n cap:Nat) (ha:a=k*c) (hc:1<=c) (hk:a+c<=n) (hcap:n<=cap) (bc:cap<=maxLen) (bn:n<=1048576) (w:World) :
  Calls prog 58 #[MV (r:Int) (c:Int) (some ⟨b,off,none⟩) n cap,.int .i64 (k:Int)] w fun e w'=>(∃ d,e= .returned (.slice (some ⟨b,off+a,none⟩) c d))/\Below w.heap.size w w':=by
 have e1:(k:Int)*(c:Int)=(a:Int):=by rw[ha];push_cast;rfl
 have e2:((k:Int)+1)*(c:Int)=(a:Int)+(c:Int):=by rw[Int.add_mul,e1,Int.one_mul]
 have q1:=IntWalk.i64_in (a:Int) (by omega)
 have q2:=IntWalk.i64_in ((a:Int)+(c:Int)) (by omega)
 have q3:=IntWalk.i64_in ((k:Int)+1) (by
  have:k<=k*c:=Nat.le_mul_of_pos_right k hc
  omega)
 have l1:(a:Int)<=(a:Int)+(c:Int):=by omega
 have l2:(a:Int)+(c:Int)<=(cap:Int):=by omega
 have l3:(0:Int)<=(a:Int)+(c:Int):=by omega
 clear ha
 go_enter func58,ntmps58
 go_wp2
 go_ret
 exact⟨⟨_,lI (by omega)⟩,Qb.alloc Ql _⟩
def Mo (v:List Int) (R C:Nat) (cs:Array Value) (w wr:World) (gR k:Nat):Prop :=
 VO wr w.heap.size 9 1 (some ⟨gR,0,none⟩) R R (sf (rt v C) R k)/\Blk wr w.heap.size 37 cs/\Below w.heap.size w wr
def Mj (v:List Int) (R C:Nat) (cs:Array Value) (w wr:World) (gR k gW j:Nat):Prop :=
 Mo v R C cs w wr gR k/\VO wr w.heap.size 9 1 (some ⟨gW,0,none⟩) C C (sf (fun i=>fx (v.getD (k*C+i) 0)) C j)/\gR<gW/\w.heap.size<gR
theorem Mo.below {v:List Int} {R C:Nat} {cs:Array Value} {w wr w1:World} {gR k:Nat} (h:Mo v R C cs w wr gR k) (hb:Below wr.heap.size wr w1):Mo v R C cs w w1 gR k :=
 ⟨h.1.below hb,h.2.1.aa hb,bp hb h.2.2.size h.2.2⟩
theorem Mj.start {v:List Int} {R C:Nat} {cs:Array Value} {w wr:World} {gR k:Nat} (h:Mo v R C cs w wr gR k) (hC:C<=5) (h0:w.heap.size<gR):Mj v R C cs w (wr.alloc (ZS C)) gR k wr.heap.size 0 :=
 ⟨h.below (Qb.alloc Ql _),by rw[ur];exact(VO.Cl wr C (by omega)).mono h.2.2.size,(h.1.aj gR rfl).2,h0⟩
theorem Mj.step {v:List Int} {R C:Nat} {cs:Array Value} {w wr w1:World} {gR k gW j:Nat} (h:Mj v R C cs w wr gR k gW j) (hb:Below wr.heap.size wr w1) (hj:j<C) {s:ByteArray} (hs:s=bs (fx (v.getD (k*C+j) 0))) :
  Mj v R C cs w (w1.setCell ⟨gW,j,none⟩ (.string s)) gR k gW (j+1):=by
 obtain⟨⟨h1,h2,h3⟩,h4,h5,h6⟩:=h;subst hs;refine⟨⟨(h1.below hb).far (p:=⟨gW,j,none⟩) (fun e=>by injection e with e;dsimp only at e;omega) _,(h2.aa hb).far (p:=⟨gW,j,none⟩) (by dsimp only;omega) _,(bp hb h3.size h3).setCell (by dsimp only;omega) _⟩,?_,h5,h6⟩
 have h7:=(h4.below hb).store j (.string (bs (fx (v.getD (k*C+j) 0))));rw[xd (fun i=>fx (v.getD (k*C+i) 0)) C j hj] at h7
 exact h7
theorem Mo.step {v:List Int} {R C:Nat} {cs:Array Value} {w wr w1:World} {gR k gW:Nat} (h:Mj v R C cs w wr gR k gW C) (hb:Below wr.heap.size wr w1) (hk:k<R) {s:ByteArray} (hs:s=bs (rt v C k)) :
  Mo v R C cs w (w1.setCell ⟨gR,k,none⟩ (.string s)) gR (k+1):=by
 obtain⟨⟨h1,h2,h3⟩,h4,h5,h6⟩:=h;subst hs;refine⟨?_,(h2.aa hb).far (p:=⟨gR,k,none⟩) (by dsimp only;omega) _,(bp hb h3.size h3).setCell (by dsimp only;omega) _⟩
 have h7:=(h1.below hb).store k (.string (bs (rt v C k)));rw[xd (rt v C) R k hk] at h7
 exact h7
theorem qe (r c:Int) (v:List Int) (A:Option Addr) (n cap:Nat) (w:World) (ht:Tab w) (hx0:SI w A n v) (bn:n<=1048576) (hcap:n<=cap) (bc:cap<=maxLen) :
  Calls prog 15 #[MV r c A n cap] w fun e w'=>e= .returned (.string (bs (mt ⟨r,c,v⟩)))/\Below w.heap.size w w':=by
 obtain⟨u1,hu1⟩:∃ u,u=w.alloc (.cells #[.int .i64 r,.int .i64 c,.slice A n cap] 37):=⟨_,rfl⟩;have B1:Blk u1 w.heap.size 37 #[.int .i64 r,.int .i64 c,.slice A n cap]:=by rw[hu1];exact Blk.new w _ _
 have HO1:Hid (Below w.heap.size w u1):=by rw[hu1];exact Qb.alloc Ql _
 have HX0:=Qh hx0;have HX:Hid (SI u1 A n v):=SI.below hx0 HO1.out;have HB:=Qh B1;have HTB:=Qh ht;have hlen:=hx0.1;have c0:u1.cell? ⟨w.heap.size,0,none⟩=some (.int .i64 r):=B1.cell 0;have c1:u1.cell? ⟨w.heap.size,1,none⟩=some (.int .i64 c):=B1.cell 1;have c2:u1.cell? ⟨w.heap.size,2,none⟩=some (.slice A n cap):=B1.cell 2;have hsz:u1.heap.size=w.heap.size+1:=by rw[hu1];simp
 have HSZ:=Qh hsz;clear B1 ht hsz
 cases hv:mvB ⟨r,c,v⟩
 ·have hbad:Hid (mt ⟨r,c,v⟩=[]):=s_ hv;have HV:=Qh hv;clear hx0 hlen hv
  go_enter func15,ntmps15
  go_wp2_with fail
  rw[<-hu1];clear hu1;refine(aw r c v A n cap u1 HX.out (by omega)).mono ?_
  rintro e w1 ⟨rfl,hb1⟩;rw[HV.out];have HB1:=Qh hb1;clear hb1;go_wp2
  go_ret
  exact⟨bT (by rw[hbad.out];rfl),bp HB1.out HO1.out.size HO1.out⟩
 obtain⟨R,C,hr,hc,R1,R5,C1,C5,hl,h25,hall⟩:=er hv
 dsimp only at hr hc hl hall
 subst hr hc;have hmt:Hid (mt ⟨(R:Int),(C:Int),v⟩=mtx v R C):=l_ hv rfl rfl;have HV:=Qh hv;have HALL:=Qh hall;have HL:=Qh hlen;have HL2:=Qh hl;have h0:0<n:=by have:=Nat.mul_pos (show 0<R by omega) (show 0<C by omega);omega
 obtain⟨b,off,rfl,hb,hcl⟩:=hx0.2 h0;have HCL:=Qh hcl;have hmR:=ui R (by omega)
 have hmC:=ui C (by omega)
 clear hx0 hlen hv hl hall hcl
 go_enter func15,ntmps15
 go_wp2_with fail
 rw[<-hu1];clear hu1;refine(aw (R:Int) (C:Int) v (some ⟨b,off,none⟩) n cap u1 HX.out (by omega)).mono ?_
 rintro e w1 ⟨rfl,hb1⟩;rw[HV.out];have d0:w1.cell? ⟨w.heap.size,0,none⟩=some (.int .i64 (R:Int)):=(HB.out.aa hb1).cell 0;obtain⟨gR,hgR⟩:∃ g,g=w1.heap.size:=⟨_,rfl⟩;have hgR2:w.heap.size<gR:=by rw[hgR];have:=hb1.size;have:=HSZ.out;omega
 obtain⟨u2,hu2⟩:∃ u,u=w1.alloc (ZS R):=⟨_,rfl⟩;have HMO:Hid (Mo v R C #[.int .i64 (R:Int),.int .i64 (C:Int),.slice (some ⟨b,off,none⟩) n cap] w u2 gR 0):=by
  have hO:=bp hb1 HO1.out.size HO1.out;refine⟨?_,?_,?_⟩
  ·rw[hu2,ur,hgR];exact(VO.Cl w1 R (by omega)).mono hO.size
  ·rw[hu2];exact(HB.out.aa hb1).alloc _
  ·rw[hu2];exact hO.alloc hO.size _
 clear hb1 c0 c1 c2
 go_wp2_with fail
 rw[<-hu2,<-hgR];clear hu2 hgR d0
 go_loopw [16] (fun q wr=>∃ k:Nat,k<=R/\q= .int .i64 k/\Hid (Mo v R C #[.int .i64 (R:Int),.int .i64 (C:Int),.slice (some ⟨b,off,none⟩) n cap] w wr gR k)) (fun q _=>R-(intOf q).toNat)
 case atStart=>exact⟨0,Nat.zero_le _,rfl,HMO⟩
 case round =>
  obtain⟨k,hk,rfl,hmo⟩:=hrel
  by_cases hlt:k<R
  ·have i0:(0:Int)<=(k:Int):=by omega
   have i1:(k:Int)<(R:Int):=by omega
   have d1:wr.cell? ⟨w.heap.size,1,none⟩=some (.int .i64 (C:Int)):=hmo.out.2.1.cell 1;obtain⟨wo,rfl⟩:∃ u:World,u=wr:=⟨_,rfl⟩;obtain⟨gW,hgW⟩:∃ g,g=wo.heap.size:=⟨_,rfl⟩;obtain⟨u3,hu3⟩:∃ u,u=wo.alloc (ZS C):=⟨_,rfl⟩;have HMJ:Hid (Mj v R C #[.int .i64 (R:Int),.int .i64 (C:Int),.slice (some ⟨b,off,none⟩) n cap] w u3 gR k gW 0):=by rw[hu3,hgW];exact Mj.start hmo.out C5 hgR2
   have e0:u3.cell? ⟨w.heap.size,0,none⟩=some (.int .i64 (R:Int)):=HMJ.out.1.2.1.cell 0;have e1:u3.cell? ⟨w.heap.size,1,none⟩=some (.int .i64 (C:Int)):=HMJ.out.1.2.1.cell 1;have e2:u3.cell? ⟨w.heap.size,2,none⟩=some (.slice (some ⟨b,off,none⟩) n cap):=HMJ.out.1.2.1.cell 2;have hkc:k*C+C<=R*C:=by have:=Nat.mul_le_mul_right C (show k+1<=R by omega);rw[Nat.succ_mul] at this;exact this
   have HKC:Hid (k*C+C<=v.length):=by show _<=_;rw[HL2.out];exact hkc
   obtain⟨a,ha⟩:∃ a,a=k*C:=⟨_,rfl⟩;have hac:a+C<=n:=by rw[ha];have:=HKC.out;rw[HL.out] at this;exact this
   have HA:=Qh ha;have hu3r:wo.alloc (ZS C)=u3:=hu3.symm;have HGW:=Qh hgW;clear hmo hkc ha hu3 hgW
   go_wp2_with fail
   rw[<-HGW.out];clear hu3r d1;refine(vX R C k a b off n cap HA.out C1 hac hcap bc bn u3).mono ?_;rintro e w4 ⟨⟨d,rfl⟩,hb4⟩;have HMJ4:Hid (Mj v R C #[.int .i64 (R:Int),.int .i64 (C:Int),.slice (some ⟨b,off,none⟩) n cap] w w4 gR k gW 0):=⟨HMJ.out.1.below hb4,HMJ.out.2.1.below hb4,HMJ.out.2.2⟩;clear hb4 HMJ e0 e1 e2
   go_wp2_with fail
   go_loopw [26] (fun q wr=>∃ j:Nat,j<=C/\q= .int .i64 j/\Hid (Mj v R C #[.int .i64 (R:Int),.int .i64 (C:Int),.slice (some ⟨b,off,none⟩) n cap] w wr gR k gW j)) (fun q _=>C-(intOf q).toNat)
   case atStart=>exact⟨0,Nat.zero_le _,rfl,HMJ4⟩
   case round =>
    obtain⟨j,hj,rfl,hmj⟩:=hrel
    by_cases hjl:j<C
    ·obtain⟨x,ex⟩:∃ x,x=v.getD (k*C+j) 0:=⟨_,rfl⟩;have j0:(0:Int)<=(j:Int):=by omega
     have j1:(j:Int)<(C:Int):=by omega
     have cx:wr.cell? ⟨b,off+a+j,none⟩=some (.int .i64 x):=by
      rw[ex,hmj.out.1.2.2.cell (p:=⟨b,off+a+j,none⟩) hb,Nat.add_assoc,<-HA.out]
      exact HCL.out (a+j) (by omega)
     have hx:=sQ HALL.out (k:=k*C+j) (by have:=HKC.out;omega)
     rw[<-ex] at hx;have EX:=Qh ex;clear ex
     go_wp2_with fail
     refine(iI x hx wr (HTB.out.below hmj.out.1.2.2 Ql)).mono ?_;rintro e w5 ⟨rfl,hb5⟩;obtain⟨s,hs⟩:∃ s,s=bs (fx x):=⟨_,rfl⟩;rw[<-hs];have HST:Hid (Mj v R C #[.int .i64 (R:Int),.int .i64 (C:Int),.slice (some ⟨b,off,none⟩) n cap] w (w5.setCell ⟨gW,j,none⟩ (.string s)) gR k gW (j+1)):=hmj.out.step hb5 hjl (by rw[hs,EX.out])
     have hv5:=hmj.out.2.1.below hb5;have fw:w5.frozen? ⟨gW,j,none⟩=false:=hv5.frozen j;obtain⟨y,cw⟩:∃ y,w5.cell? ⟨gW,j,none⟩=some (.string y):=by
      rw[hv5.cell j (by omega)]
      exact⟨_,zu _ _ _ (by omega)⟩
     clear hs hb5 hv5 hmj hx;go_wp2
     go_roundw
     case rel=>exact⟨j+1,by omega,by go_num,HST⟩
     case measure=>simp[intOf];omega
    ·obtain rfl:j=C:=by omega
     have HVW:Hid (VO wr w.heap.size 9 1 (some ⟨gW,0,none⟩) j j (strs ((List.range j).map fun i=>fx (v.getD (k*j+i) 0)))):=by
      have h:=hmj.out.2.1;rw[uq] at h
      exact h
     have hre:Hid (Lib.join ((List.range j).map fun i=>fx (v.getD (k*j+i) 0)) [32]=rt v j k):=(rt_eq v j k HKC.out).symm
     go_wp2_with fail
     refine(sS w.heap.size (some ⟨gW,0,none⟩) j j _ [32] wr HVW.out (by omega) (by rw[hre.out];exact Nat.le_trans (wT v j k C5) (by omega))).mono ?_
     rintro e w5 ⟨rfl,hb5⟩;rw[hre.out];obtain⟨s,hs⟩:∃ s,s=bs (rt v j k):=⟨_,rfl⟩;rw[<-hs];have HST:Hid (Mo v R j #[.int .i64 (R:Int),.int .i64 (j:Int),.slice (some ⟨b,off,none⟩) n cap] w (w5.setCell ⟨gR,k,none⟩ (.string s)) gR (k+1)):=Mo.step hmj.out hb5 hlt hs;have hv5:=hmj.out.1.1.below hb5;have fw:w5.frozen? ⟨gR,k,none⟩=false:=hv5.frozen k;obtain⟨y,cw⟩:∃ y,w5.cell? ⟨gR,k,none⟩=some (.string y):=by
      rw[hv5.cell k (by omega)]
      exact⟨_,zu _ _ _ (by omega)⟩
     clear hs hb5 hv5 hmj HVW hre;go_wp2
     go_roundw
     case rel=>exact⟨k+1,by omega,by go_num,HST⟩
     case measure=>simp[intOf];omega
  ·obtain rfl:k=R:=by omega
   have HVR:Hid (VO wr w.heap.size 9 1 (some ⟨gR,0,none⟩) k k (strs ((List.range k).map (rt v C)))):=by
    have h:=hmo.out.1;rw[uq] at h
    exact h
   have HBE:=Qh hmo.out.2.2;clear hmo
   go_wp2_with fail
   refine(sS w.heap.size (some ⟨gR,0,none⟩) k k _ [59,32] wr HVR.out (by omega) (Nat.le_trans (rM _ [59,32] (5*302) (fun x hx=>by
    obtain⟨y,_,rfl⟩:=List.mem_map.1 hx
    exact wT v C y C5)) (by simp only[List.length_map,List.length_range,List.length_cons,List.length_nil];exact Nat.le_trans (Nat.mul_le_mul_right _ R5) (by omega)))).mono ?_
   rintro e w5 ⟨rfl,hb5⟩;have HB5:=Qh hb5;clear hb5;go_wp2
   go_ret
   exact⟨bT (by rw[hmt.out];rfl),bp HB5.out HBE.out.size HBE.out⟩
theorem jh {P:List (List UInt8)} {k:Nat} (h:k<P.length):(strs P)[k]?=some (.string (bs (P.getD k []))):=by
 rw[strs,List.getElem?_map,List.getElem?_eq_getElem h,List.getD_eq_getElem?_getD,List.getElem?_eq_getElem h]
 rfl
theorem eS {P:List (List UInt8)} {k:Nat} (h:k<P.length):P.getD k []∈P:=by
 rw[List.getD_eq_getElem?_getD,List.getElem?_eq_getElem h]
 exact List.getElem_mem h
def RMp (l:List UInt8) (m:Mx) (ok:Bool):Prop:=(ok=true/\mvB m=true/\mt m=l)\/(ok=false/\m=Mx.z/\∀ m',mvB m'=true->mt m'≠l)
theorem pY {c:UInt8} (x:Int) (h:c=32\/c=59):c∉fx x:=by
 have hd:∀ m:Int,c∉dec m:=fun m=>by
  intro hm;have:=pS _ c hm;rcases h with rfl|rfl
  ·exact absurd this.1 (by decide)
  ·exact absurd this.2 (by decide)
 have hf:∀ r:Fin 16,c∉fd r.val:=by
  rcases h with rfl|rfl <;> decide
 have hn:∀ n:Int,c∉fxn n:=fun n=>by
  unfold fxn;intro hm;rcases List.mem_append.1 hm with hm|hm
  ·exact hd _ hm
  ·split at hm
   ·cases hm
   ·rcases List.mem_cons.1 hm with hm|hm
    ·rcases h with rfl|rfl <;> exact absurd hm (by decide)
    ·exact hf ⟨(n%16).toNat,by omega⟩ hm
 unfold fx fxs
 split
 ·intro hm;rcases List.mem_cons.1 hm with hm|hm
  ·rcases h with rfl|rfl <;> exact absurd hm (by decide)
  ·exact hn _ hm
 ·exact hn _
theorem wC {c:UInt8} {sep:List UInt8} (hs:c∉sep):∀ {ls:List (List UInt8)},(∀ x∈ls,c∉x)->c∉Lib.join ls sep:=by
 intro ls
 induction ls with
 | nil=>intro _;simp[Lib.join,List.intercalate]
 | cons x ls ih =>
  intro h
  by_cases hl:ls=[]
  ·subst hl;rw[Lib.join_one];exact h x (List.mem_cons_self ..)
  ·rw[hU x hl];intro hm;rcases List.mem_append.1 hm with hm|hm
   ·rcases List.mem_append.1 hm with hm|hm
    ·exact h x (List.mem_cons_self ..) hm
    ·exact hs hm
   ·exact ih (fun y hy=>h y (List.mem_cons_of_mem _ hy)) hm
theorem Ds (v:List Int) (C k:Nat):(59:UInt8)∉rt v C k:=by
 unfold rt;refine wC (by decide) fun x hx=>?_
 obtain⟨y,_,rfl⟩:=List.mem_map.1 hx
 exact pY y (.inr rfl)
theorem mU (v:List Int) (C k:Nat) (h:k*C+C<=v.length):((v.drop (k*C)).take C).length=C:=by rw[List.length_take,List.length_drop];omega
theorem xj {v:List Int} {C k:Nat} (hC:1<=C) (h:k*C+C<=v.length):Lib.split (rt v C k) [32]=((v.drop (k*C)).take C).map fx:=by
 unfold rt;refine kV (fun e=>?_) fun x hx=>?_
 ·have:=congrArg List.length e;rw[List.length_map,mU v C k h,List.length_nil] at this
  omega
 ·obtain⟨y,_,rfl⟩:=List.mem_map.1 hx
  exact pY y (.inl rfl)
theorem tw {v:List Int} {R C:Nat} (hR:1<=R):Lib.split (mtx v R C) [59,32]=(List.range R).map (rt v C):=by
 unfold mtx;refine kV (fun e=>?_) fun x hx=>?_
 ·have:=congrArg List.length e
  simp at this
  omega
 ·obtain⟨y,_,rfl⟩:=List.mem_map.1 hx
  exact Ds v C y
theorem mN {l:List UInt8} {m:Mx} (h:mvB m=true) (hl:mt m=l):∃ R C:Nat,1<=R/\R<=5/\1<=C/\C<=5/\(Lib.split l [59,32]).length=R/\∀ k,k<R->(Lib.split ((Lib.split l [59,32]).getD k []) [32]).length=C/\∀ w∈Lib.split ((Lib.split l [59,32]).getD k []) [32],∃ x,(0<=x/\x<=4095)/\fx x=w:=by
 obtain⟨R,C,hr,hc,R1,R5,C1,C5,hlen,_,hall⟩:=er h;have e:Lib.split l [59,32]=(List.range R).map (rt m.v C):=by rw[<-hl,l_ h hr hc,tw R1]
 refine⟨R,C,R1,R5,C1,C5,by rw[e];simp,fun k hk=>?_⟩
 have hk2:k*C+C<=m.v.length:=by rw[hlen];have:=Nat.mul_le_mul_right C (show k+1<=R by omega);rw[Nat.succ_mul] at this;exact this
 have e2:(Lib.split l [59,32]).getD k []=rt m.v C k:=by rw[e];simp[List.getD_eq_getElem?_getD,hk]
 rw[e2,xj C1 hk2];refine⟨by rw[List.length_map,mU _ _ _ hk2],fun w hw=>?_⟩
 obtain⟨x,hx,rfl⟩:=List.mem_map.1 hw;rw[List.all_eq_true] at hall
 exact⟨x,kJ (hall x (List.mem_of_mem_drop (List.mem_of_mem_take hx))),rfl⟩
def Rok (P:List (List UInt8)) (C k:Nat) (vs:List Int):Prop :=
 vs.length=k*C/\vs.all rv=true/\(0<k->1<=C/\C<=5/\(Lib.split (P.getD 0 []) [32]).length=C)/\∀ i,i<k->P.getD i []=rt vs C i
theorem Rok.start (P:List (List UInt8)) (C:Nat):Rok P C 0 []:=⟨by simp,rfl,fun h=>absurd h (by omega),fun i h=>absurd h (by omega)⟩
theorem RMp.no {l:List UInt8} (h:∀ m',mvB m'=true->mt m'≠l):RMp l Mx.z false:= .inr ⟨rfl,rfl,h⟩
theorem vF {l:List UInt8} (h:5<(Lib.split l [59,32]).length):RMp l Mx.z false:=RMp.no fun m hm e=>by
 obtain⟨R,C,_,_,_,_,h1,_⟩:=mN hm e
 omega
theorem vG {l:List UInt8} {k:Nat} (hk:k<(Lib.split l [59,32]).length) (h:5<(Lib.split ((Lib.split l [59,32]).getD k []) [32]).length):RMp l Mx.z false:=RMp.no fun m hm e=>by
 obtain⟨R,C,_,_,_,_,h1,h2⟩:=mN hm e;have:=(h2 k (by omega)).1
 omega
theorem vE {l:List UInt8} {k C:Nat} {vs:List Int} (hk:k<(Lib.split l [59,32]).length) (h0:0<k) (hr:Rok (Lib.split l [59,32]) C k vs) (h:(Lib.split ((Lib.split l [59,32]).getD k []) [32]).length≠C):RMp l Mx.z false:=RMp.no fun m hm e=>by
 obtain⟨R,C',_,_,_,_,h1,h2⟩:=mN hm e;have h3:=(h2 k (by omega)).1
 have h4:=(h2 0 (by omega)).1
 have h5:=(hr.2.2.1 h0).2.2
 omega
theorem Ej {l w:List UInt8} {k:Nat} {v:Int} (hk:k<(Lib.split l [59,32]).length) (hw:w∈Lib.split ((Lib.split l [59,32]).getD k []) [32]) (h:RF w v false):RMp l Mx.z false:=RMp.no fun m hm e=>by
 obtain⟨R,C,_,_,_,_,h1,h2⟩:=mN hm e;obtain⟨x,hx,hxw⟩:=(h2 k (by omega)).2 w hw
 rcases h with⟨h,_⟩|⟨_,_,h⟩
 ·cases h
 ·exact h x hx.1 hx.2 hxw
theorem RF.num {w:List UInt8} {v:Int} (h:RF w v true):(0<=v/\v<=4095)/\fx v=w:=by
 rcases h with⟨_,h1,h2⟩|⟨h,_⟩
 ·exact⟨h1,h2⟩
 ·cases h
def Rjk (W:List (List UInt8)) (j:Nat) (ys:List Int):Prop:=ys.length=j/\ys.all rv=true/\ys.map fx=W.take j
theorem Rjk.start (W:List (List UInt8)):Rjk W 0 []:=⟨rfl,rfl,rfl⟩
theorem Rjk.step {W:List (List UInt8)} {j:Nat} {ys:List Int} {x:Int} (h:Rjk W j ys) (hj:j<W.length) (hx:0<=x/\x<=4095) (e:fx x=W.getD j []):Rjk W (j+1) (ys++[x]):=by
 obtain⟨h1,h2,h3⟩:=h;refine⟨by simp[h1],by rw[List.all_append,h2,List.all_cons,aR hx];rfl,?_⟩
 rw[List.map_append,h3,List.take_succ_eq_append_getElem hj,List.map_cons,List.map_nil,e,List.getD_eq_getElem?_getD,List.getElem?_eq_getElem hj]
 rfl
theorem tj {vs ys:List Int} {C i:Nat} (h:i*C+C<=vs.length):rt (vs++ys) C i=rt vs C i:=by
 unfold rt
 congr 2
 rw[List.drop_append_of_le_length (by omega),List.take_append_of_le_length (by rw[List.length_drop];omega)]
theorem Rok.next {P:List (List UInt8)} {C k:Nat} {vs ys:List Int} (h:Rok P C k vs) (hk:k<P.length) (hy:Rjk (Lib.split (P.getD k []) [32]) C ys) (hC:(Lib.split (P.getD k []) [32]).length=C) (C5:C<=5):Rok P C (k+1) (vs++ys):=by
 obtain⟨h1,h2,h3,h4⟩:=h;obtain⟨y1,y2,y3⟩:=hy;have hW:ys.map fx=Lib.split (P.getD k []) [32]:=by rw[y3,List.take_of_length_le (by omega)]
 have hC1:1<=C:=by rw[<-hC];have:=xi (P.getD k []) [32];cases hs:Lib.split (P.getD k []) [32] with|nil=>exact absurd hs this|cons=>simp
 refine⟨by rw[List.length_append,h1,y1,Nat.succ_mul],by rw[List.all_append,h2,y2];rfl,fun _=>⟨hC1,C5,?_⟩,fun i hi=>?_⟩
 ·rcases Nat.eq_zero_or_pos k with h0|h0
  ·subst h0;exact hC
  ·exact(h3 h0).2.2
 ·by_cases hik:i<k
  ·have:i*C+C<=vs.length:=by rw[h1];have:=Nat.mul_le_mul_right C (show i+1<=k by omega);rw[Nat.succ_mul] at this;exact this
   rw[tj this]
   exact h4 i hik
  ·obtain rfl:i=k:=by omega
   have e1:((vs++ys).drop (i*C)).take C=ys:=by rw[<-h1,List.drop_left,List.take_of_length_le (by omega)]
   unfold rt;rw[e1,hW]
   exact(uc [32] (by simp) _ _ (Nat.lt_succ_self _)).symm
theorem vU {l:List UInt8} {C:Nat} {vs:List Int} (h:Rok (Lib.split l [59,32]) C (Lib.split l [59,32]).length vs) (h5:(Lib.split l [59,32]).length<=5):RMp l ⟨((Lib.split l [59,32]).length:Int),(C:Int),vs⟩ true:=by
 obtain⟨p,hp⟩:∃ p,p=(Lib.split l [59,32]).length:=⟨_,rfl⟩;rw[<-hp] at h h5 ⊢;have hp1:1<=p:=by rw[hp];have:=xi l [59,32];cases hs:Lib.split l [59,32] with|nil=>exact absurd hs this|cons=>simp
 obtain⟨h1,h2,h3,h4⟩:=h;obtain⟨C1,C5,_⟩:=h3 (by omega)
 have hv:mvB ⟨(p:Int),(C:Int),vs⟩=true:=by
  have a:side (p:Int)=true:=decide_eq_true (by omega)
  have b:side (C:Int)=true:=decide_eq_true (by omega)
  simp[mvB,a,b,h1,h2]
 refine .inl ⟨rfl,hv,?_⟩;rw[l_ hv rfl rfl];have e:Lib.split l [59,32]=(List.range p).map (rt vs C):=by
  apply List.ext_getElem
  ·simp[hp]
  ·intro i a b;have:=h4 i (by omega)
   rw[List.getD_eq_getElem?_getD,List.getElem?_eq_getElem a] at this
   simpa using this
 unfold mtx;rw[<-e]
 exact uc [59,32] (by simp) _ _ (Nat.lt_succ_self _)
theorem RMp.one {l:List UInt8} {m1 m2:Mx} {a b:Bool} (h1:RMp l m1 a) (h2:RMp l m2 b):m1=m2/\a=b:=by
 rcases h1 with⟨rfl,v1,e1⟩|⟨rfl,rfl,n1⟩
 ·rcases h2 with⟨rfl,v2,e2⟩|⟨rfl,rfl,n2⟩
  ·refine⟨?_,rfl⟩;obtain⟨R1,C1,r1,c1,a1,_,b1,_,l1,_,q1⟩:=er v1;obtain⟨R2,C2,r2,c2,a2,_,b2,_,l2,_,q2⟩:=er v2;have s1:Lib.split l [59,32]=(List.range R1).map (rt m1.v C1):=by rw[<-e1,l_ v1 r1 c1,tw a1]
   have s2:Lib.split l [59,32]=(List.range R2).map (rt m2.v C2):=by rw[<-e2,l_ v2 r2 c2,tw a2]
   have hR:R1=R2:=by have h:=congrArg List.length (s1.symm.trans s2);simpa using h
   subst hR;have hrow (k:Nat) (hk:k<R1):rt m1.v C1 k=rt m2.v C2 k:=by
    have h:=congrArg (fun x=>x[k]?) (s1.symm.trans s2)
    simpa [hk] using h
   have hm (C k:Nat) (hk:k<R1):k*C+C<=R1*C:=by have:=Nat.mul_le_mul_right C (show k+1<=R1 by omega);rw[Nat.succ_mul] at this;exact this
   have hw (k:Nat) (hk:k<R1):((m1.v.drop (k*C1)).take C1).map fx=((m2.v.drop (k*C2)).take C2).map fx:=by
    rw[<-xj b1 (by rw[l1];exact hm C1 k hk),<-xj b2 (by rw[l2];exact hm C2 k hk),hrow k hk]
   have hC:C1=C2:=by
    have h:=congrArg List.length (hw 0 (by omega))
    rw[List.length_map,List.length_map,mU _ _ _ (by rw[l1];exact hm C1 0 (by omega)),mU _ _ _ (by rw[l2];exact hm C2 0 (by omega))] at h
    exact h
   subst hC;have hv:m1.v=m2.v:=by
    apply List.ext_getElem (by rw[l1,l2])
    intro i hi1 hi2;have hk:i/C1<R1:=by rw[Nat.div_lt_iff_lt_mul (by omega)];rw[l1] at hi1;exact hi1
    have hj:i%C1<C1:=Nat.mod_lt _ (by omega)
    have hij:i/C1*C1+i%C1=i:=by rw[Nat.mul_comm];exact Nat.div_add_mod i C1
    have h:=congrArg (fun x=>x[i%C1]?) (hw (i/C1) hk)
    simp only[List.getElem?_map,List.getElem?_take_of_lt hj,List.getElem?_drop,hij,List.getElem?_eq_getElem hi1,List.getElem?_eq_getElem hi2,Option.map_some,Option.some.injEq] at h;rw[List.all_eq_true] at q1 q2
    exact vT (kJ (q1 _ (List.getElem_mem hi1))) (kJ (q2 _ (List.getElem_mem hi2))) h
   obtain⟨x,y,z⟩:=m1;obtain⟨x2,y2,z2⟩:=m2
   dsimp only at r1 c1 r2 c2 hv
   rw[r1,c1,r2,c2,hv]
  ·exact absurd e1 (n2 _ v1)
 ·rcases h2 with⟨rfl,v2,e2⟩|⟨rfl,rfl,n2⟩
  ·exact absurd e2 (n1 _ v2)
  ·exact⟨rfl,rfl⟩
theorem Dv {l b wh dg:List UInt8} {ng z:Bool} (hb:b=Lib.trimPrefix l [45]) (hn:ng=Lib.hasPrefix l [45]) (hc:Lib.cut b [46]=(wh,dg,z)) :
  pI l=if 3<wh.length\/4<dg.length then none else if (dOf wh).2=true/\(dOf (four dg)).2=true then some ((if ng=true then -((dOf wh).1*16+(dOf (four dg)).1/625) else (dOf wh).1*16+(dOf (four dg)).1/625)%4096) else none:=by
 unfold pI;rw[<-hb,hc,<-hn]
theorem xt (l p:List UInt8):(Lib.trimPrefix l p).length<=l.length:=by
 unfold Lib.trimPrefix
 split
 ·rw[List.length_drop];omega
 ·exact Nat.le_refl _
theorem vP {l:List UInt8} (h:l.length<=8):0<=(dOf l).1/\(dOf l).1<=99999999:=by
 unfold dOf
 split
 ·rename_i ha
  have:=jS (l:=l) (k:=l.length) Ql h (by rw[List.take_length];exact ha)
  rwa [List.take_length] at this
 ·exact⟨by decide,by decide⟩
theorem vw (k:Nat) (h:k<=4):ByteArray.extract ⟨#[48,48,48,48]⟩ k 4=bs (List.replicate (4-k) 48):=by
 match k,h with
 | 0,_=>rfl
 | 1,_=>rfl
 | 2,_=>rfl
 | 3,_=>rfl
 | 4,_=>rfl
def Rv (l:List UInt8) (w:World) (e:Ending) (w':World):Prop:=∃ (v:Int) (ok:Bool),e= .returned (.tuple #[.int .i64 v,.bool ok])/\RF l v ok/\Below w.heap.size w w'
theorem lY (l:List UInt8) (hl:l.length<=1048576) (w:World) (ht:Tab w) (hm:iD w):Calls prog 130 #[.string (bs l)] w (Rv l w):=by
 have HT:=Qh ht;have HM:=Qh hm;have HL:=Qh hl;clear ht hm hl
 go_enter func130,ntmps130
 go_wp2_with fail
 refine Qc (Db l [45] w) ?_;obtain⟨b,hb⟩:∃ b,b=Lib.trimPrefix l [45]:=⟨_,rfl⟩;obtain⟨ng,hn⟩:∃ b,b=Lib.hasPrefix l [45]:=⟨_,rfl⟩;rw[<-hb,<-hn];have HB:=Qh hb;have HN:=Qh hn;clear hb hn
 go_wp2_with fail
 refine(yY b [46] w (by rw[HB.out];exact Nat.le_trans (xt _ _) HL.out) HM.out).mono ?_
 rintro e w1 ⟨rfl,hb1⟩;obtain⟨⟨wh,dg,z⟩,hc⟩:∃ c,c=Lib.cut b [46]:=⟨_,rfl⟩;rw[<-hc];have HP:Hid (pI l=if 3<wh.length\/4<dg.length then none else if (dOf wh).2=true/\(dOf (four dg)).2=true then some ((if ng=true then -((dOf wh).1*16+(dOf (four dg)).1/625) else (dOf wh).1*16+(dOf (four dg)).1/625)%4096) else none):=Dv HB.out HN.out hc.symm
 have hws:(bs wh).size=wh.length:=aK _;have hds:(bs dg).size=dg.length:=aK _;have HB1:=Qh hb1;clear hc hb1
 by_cases h3:3<wh.length
 ·have h3':(3:Int)<(wh.length:Int):=by omega
  have HR:Hid (RF l 0 false):=RF.noI (by rw[HP.out,if_pos (.inl h3)])
  go_wp2_with fail
  go_wp2
  go_ret2
  exact⟨0,false,rfl,HR.out,HB1.out⟩
 have h3':(wh.length:Int)<=3:=by omega
 by_cases h4:4<dg.length
 ·have h4':(4:Int)<(dg.length:Int):=by omega
  have HR:Hid (RF l 0 false):=RF.noI (by rw[HP.out,if_pos (.inr h4)])
  go_wp2_with fail
  go_wp2
  go_ret2
  exact⟨0,false,rfl,HR.out,HB1.out⟩
 have h4':(dg.length:Int)<=4:=by omega
 have hze:=vw dg.length (by omega)
 have hap:bs dg++bs (List.replicate (4-dg.length) 48)=bs (four dg):=bN _ _;have hfl:(four dg).length=4:=by unfold four;rw[List.length_append,List.length_replicate];omega
 have hrs:(bs (List.replicate (4-dg.length) 48)).size=4-dg.length:=by rw[aK,List.length_replicate]
 obtain⟨d0,d1⟩:=vP (l:=wh) (by omega)
 obtain⟨d2,d3⟩:=vP (l:=four dg) (by omega)
 obtain⟨⟨a1,o1⟩,hd1⟩:∃ c,c=dOf wh:=⟨_,rfl⟩;obtain⟨⟨a2,o2⟩,hd2⟩:∃ c,c=dOf (four dg):=⟨_,rfl⟩;rw[<-hd1] at d0 d1 HP;rw[<-hd2] at d2 d3 HP
 dsimp only at d0 d1 d2 d3 HP
 have HD1:=Qh hd1;have HD2:=Qh hd2;have HW1:Hid (wh.length<=8):=by show _<=_;omega
 have HW2:Hid ((four dg).length<=8):=by show _<=_;omega
 have q0:0<=a2/625:=by omega
 have q1:=IntWalk.i64_in (a1*16) (by omega)
 have q2:=IntWalk.i64_in (a1*16+a2/625) (by omega)
 have q3:=IntWalk.i64_in (-(a1*16+a2/625)) (by omega)
 clear hd1 hd2 hfl
 go_wp2_with fail
 refine Qc (DJ wh HW1.out w1) ?_;rw[<-HD1.out]
 dsimp only
 go_wp2_with fail
 refine Qc (DJ (four dg) HW2.out w1) ?_;rw[<-HD2.out]
 dsimp only
 clear hze hap hrs hws hds
 cases o1
 ·have HR:Hid (RF l 0 false):=RF.noI (by rw[HP.out,if_neg (by omega),if_neg (by simp)])
  go_wp2_with fail
  go_wp2
  go_ret2
  exact⟨0,false,rfl,HR.out,HB1.out⟩
 cases o2
 ·have HR:Hid (RF l 0 false):=RF.noI (by rw[HP.out,if_neg (by omega),if_neg (by simp)])
  go_wp2_with fail
  go_wp2
  go_ret2
  exact⟨0,false,rfl,HR.out,HB1.out⟩
 cases ng
 ·have HV:Hid (pI l=some ((a1*16+a2/625)%4096)):=by show _=_;rw[HP.out,if_neg (by omega),if_pos ⟨rfl,rfl⟩];rfl
  obtain⟨v,hv⟩:∃ v,v=(a1*16+a2/625)%4096:=⟨_,rfl⟩;have hv0:0<=v/\v<=4095:=by rw[hv];omega
  have HV2:Hid (pI l=some v):=by show _=_;rw[hv];exact HV.out
  have HVV:=Qh hv;clear HV hv
  go_wp2_with fail
  refine Qc (dK (a1*16+a2/625) w1) ?_;rw[<-HVV.out]
  go_wp2_with fail
  refine(iI v hv0 w1 (HT.out.below HB1.out Ql)).mono ?_;rintro e w2 ⟨rfl,hb2⟩;have HB2:=Qh (bp hb2 HB1.out.size HB1.out);clear hb2
  by_cases hf:fx v=l
  ·have hR:=Qh (RF.yes hv0 hf);rw[hf];clear hf;go_wp2
   go_ret2
   exact⟨v,true,rfl,hR.out,HB2.out⟩
  ·have hR:=Qh (RF.Fk HV2.out hf);have hne:((bs (fx v)).toList == (bs l).toList)=false:=by rw[<-Go.beq_toListBytes];exact iE (fun e=>hf (gU e))
   clear hf;go_wp2
   go_ret2
   exact⟨0,false,rfl,hR.out,HB2.out⟩
 ·have HV:Hid (pI l=some ((-(a1*16+a2/625))%4096)):=by show _=_;rw[HP.out,if_neg (by omega),if_pos ⟨rfl,rfl⟩];rfl
  obtain⟨v,hv⟩:∃ v,v=(-(a1*16+a2/625))%4096:=⟨_,rfl⟩;have hv0:0<=v/\v<=4095:=by rw[hv];omega
  have HV2:Hid (pI l=some v):=by show _=_;rw[hv];exact HV.out
  have HVV:=Qh hv;clear HV hv
  go_wp2_with fail
  refine Qc (dK (-(a1*16+a2/625)) w1) ?_;rw[<-HVV.out]
  go_wp2_with fail
  refine(iI v hv0 w1 (HT.out.below HB1.out Ql)).mono ?_;rintro e w2 ⟨rfl,hb2⟩;have HB2:=Qh (bp hb2 HB1.out.size HB1.out);clear hb2
  by_cases hf:fx v=l
  ·have hR:=Qh (RF.yes hv0 hf);rw[hf];clear hf;go_wp2
   go_ret2
   exact⟨v,true,rfl,hR.out,HB2.out⟩
  ·have hR:=Qh (RF.Fk HV2.out hf);have hne:((bs (fx v)).toList == (bs l).toList)=false:=by rw[<-Go.beq_toListBytes];exact iE (fun e=>hf (gU e))
   clear hf;go_wp2
   go_ret2
   exact⟨0,false,rfl,hR.out,HB2.out⟩
def RMx (l:List UInt8) (w:World) (e:Ending) (w':World):Prop:=∃ (m:Mx) (ok:Bool) (A:Option Addr) (c:Nat),e= .returned (.tuple #[MV m.r m.c A m.v.length c,.bool ok])/\OS w' w.heap.size A m.v.length c m.v/\RMp l m ok/\Below w.heap.size w w'
theorem RMx.no {l:List UInt8} {w w':World} (h:RMp l Mx.z false) (hb:Below w.heap.size w w'):RMx l w (.returned (.tuple #[MV 0 0 none 0 0,.bool false])) w':=⟨Mx.z,false,none,0,rfl,OS.nil _ _,h,hb⟩
theorem mZ {w:World} {b1 b2 n1 n2 c1 c2 s1 s2:Nat} {A B:Option Addr} {v1 v2:List Value} {T1 T2:TypeId} (h1:VO w b1 T1 s1 A n1 c1 v1) (h2:VO w b2 T2 s2 B n2 c2 v2) (hne:T2≠T1):eJ A B:=fun g ha hb=>by
 rcases h1.2 with⟨e,_⟩|⟨g1,k1,cur1,e,_,hh1,_⟩
 ·injection e with e;subst e;cases ha
 ·rcases h2.2 with⟨e2,_⟩|⟨g2,k2,cur2,e2,_,hh2,_⟩
  ·injection e2 with e2;subst e2;cases hb
  ·injection e with e;injection e2 with e2;subst e e2;injection ha with ha;injection hb with hb
   dsimp only at ha hb
   subst ha hb;rw[hh1] at hh2;injection hh2 with hh2;injection hh2 with _ hh2
   exact hne hh2.symm
abbrev PP (l:List UInt8):List (List UInt8):=Lib.split l [59,32]
abbrev WW (l:List UInt8) (k:Nat):List (List UInt8):=Lib.split ((PP l).getD k []) [32]
abbrev ZZ3:Array Value:=#[.int .i64 0,.int .i64 0,.slice none 0 0]
def Ro (l:List UInt8) (w wr:World) (p gR gM k C:Nat) (A:Option Addr) (n cap:Nat) (vs:List Int):Prop :=
 (Rok (PP l) C k vs/\vs.length=n)/\Blk wr w.heap.size 37 ZZ3/\Blk wr gM 37 #[.int .i64 (p:Int),.int .i64 (C:Int),.slice A n cap]/\OS wr w.heap.size A n cap vs /\
 VO wr w.heap.size 9 1 (some ⟨gR,0,none⟩) p p (strs (PP l))/\Below w.heap.size w wr/\w.heap.size<gM
theorem Ro.below {l:List UInt8} {w wr w1:World} {p gR gM k C n cap:Nat} {A:Option Addr} {vs:List Int} (h:Ro l w wr p gR gM k C A n cap vs) (hb:Below wr.heap.size wr w1):Ro l w w1 p gR gM k C A n cap vs:=by
 obtain⟨h1,h2,h3,h4,h5,h6,h7⟩:=h
 exact⟨h1,h2.aa hb,h3.aa hb,h4.below hb,h5.below hb,bp hb h6.size h6,h7⟩
def Rn (l:List UInt8) (w wr:World) (p gR gM gW k C j:Nat) (A:Option Addr) (n cap:Nat) (vs ys:List Int):Prop :=
 (Rok (PP l) C k vs/\vs.length=n/\Rjk (WW l k) j ys)/\Blk wr w.heap.size 37 ZZ3/\Blk wr gM 37 #[.int .i64 (p:Int),.int .i64 (C:Int),.slice A (n+j) cap]/\OS wr w.heap.size A (n+j) cap (vs++ys) /\
 VO wr w.heap.size 9 1 (some ⟨gR,0,none⟩) p p (strs (PP l))/\Below w.heap.size w wr/\w.heap.size<gM/\VO wr w.heap.size 9 1 (some ⟨gW,0,none⟩) C C (strs (WW l k))
theorem Rn.below {l:List UInt8} {w wr w1:World} {p gR gM gW k C j n cap:Nat} {A:Option Addr} {vs ys:List Int} (h:Rn l w wr p gR gM gW k C j A n cap vs ys) (hb:Below wr.heap.size wr w1):Rn l w w1 p gR gM gW k C j A n cap vs ys:=by
 obtain⟨h1,h2,h3,h4,h5,h6,h7,h8⟩:=h
 exact⟨h1,h2.aa hb,h3.aa hb,h4.below hb,h5.below hb,bp hb h6.size h6,h7,h8.below hb⟩
theorem Ro.inner {l:List UInt8} {w wr:World} {p gR gM gW k C n cap:Nat} {A:Option Addr} {vs:List Int} (h:Ro l w wr p gR gM k C A n cap vs) (hw:VO wr w.heap.size 9 1 (some ⟨gW,0,none⟩) C C (strs (WW l k))):Rn l w wr p gR gM gW k C 0 A n cap vs []:=by
 obtain⟨⟨h1,h0⟩,h2,h3,h4,h5,h6,h7⟩:=h
 exact⟨⟨h1,h0,Rjk.start _⟩,h2,h3,by rw[List.append_nil];exact h4,h5,h6,h7,hw⟩
theorem Ro.E_ {l:List UInt8} {w wr:World} {p gR gM gW C q n cap:Nat} {A:Option Addr} {vs:List Int} (h:Ro l w wr p gR gM 0 C A n cap vs) (hw:VO wr w.heap.size 9 1 (some ⟨gW,0,none⟩) q q (strs (WW l 0))):Rn l w (wr.setCell ⟨gM,1,none⟩ (.int .i64 (q:Int))) p gR gM gW 0 q 0 A n cap vs []:=by
 obtain⟨⟨h1,h0⟩,h2,h3,h4,h5,h6,h7⟩:=h;have hv:vs=[]:=by have:=h1.1;rw[Nat.zero_mul] at this;exact List.eq_nil_of_length_eq_zero this
 subst hv
 exact⟨⟨Rok.start _ _,h0,Rjk.start _⟩,h2.far (p:=⟨gM,1,none⟩) (by dsimp only;omega) _,h3.dc 1 _,by rw[List.append_nil];exact h4.dk h3 (by decide) _,h5.far (p:=⟨gM,1,none⟩) (h5.gu h3 (by decide)) _,h6.setCell (by dsimp only;omega) _,h7,hw.far (p:=⟨gM,1,none⟩) (hw.gu h3 (by decide)) _⟩
theorem Rn.outer {l:List UInt8} {w wr:World} {p gR gM gW k C n cap:Nat} {A:Option Addr} {vs ys:List Int} (h:Rn l w wr p gR gM gW k C C A n cap vs ys) (hk:k<(PP l).length) (hC:(WW l k).length=C) (C5:C<=5):Ro l w wr p gR gM (k+1) C A (n+C) cap (vs++ys):=by
 obtain⟨⟨h1,h0,hy⟩,h2,h3,h4,h5,h6,h7,h8⟩:=h
 exact⟨⟨h1.next hk hy hC C5,by rw[List.length_append,h0,hy.1]⟩,h2,h3,h4,h5,h6,h7⟩
theorem Rn.push {l:List UInt8} {w wr w1:World} {p gR gM gW k C j n cap g cap':Nat} {A:Option Addr} {vs ys:List Int} {v:Int} {o:Obj} (h:Rn l w wr p gR gM gW k C j A n cap vs ys) (hj:j<(WW l k).length) (hv:0<=v/\v<=4095) (he:fx v=(WW l k).getD j [])
  (hown:w1.ownsRow w.heap.size 3 1 (.slice (some ⟨g,0,none⟩) (n+j+1) cap') (n+j+1) ((vs++ys).map (Value.int .i64)++[.int .i64 v])) (hg:(wr.alloc o).grownBy w1 (Value.slice A (n+j) cap).ownBlock)
  (hat:(Value.slice A (n+j) cap).ownBlock=some g\/g=wr.heap.size+1) :
  Blk w1 gM 37 #[.int .i64 (p:Int),.int .i64 (C:Int),.slice A (n+j) cap]/\Rn l w (w1.setCell ⟨gM,2,none⟩ (.slice (some ⟨g,0,none⟩) (n+j+1) cap')) p gR gM gW k C (j+1) (some ⟨g,0,none⟩) n cap' vs (ys++[v]):=by
 obtain⟨⟨h1,h0,hy⟩,h2,h3,h4,h5,h6,h7,h8⟩:=h;obtain⟨k1,k2,k3,_⟩:=fS h4 h6 h6.size hown hg hat;have n2:=bf h4 h2 (by decide)
 have n3:=bf h4 h3 (by decide)
 have b3:=h3.bR k3 n3;have v5:=h5.bR k3 (mZ h5 h4 (by decide))
 have v8:=h8.bR k3 (mZ h8 h4 (by decide))
 refine⟨b3,⟨h1,h0,hy.step hj hv he⟩,(h2.bR k3 n2).far (p:=⟨gM,2,none⟩) (by dsimp only;omega) _,b3.dc 2 _,?_,v5.far (p:=⟨gM,2,none⟩) (v5.gu b3 (by decide)) _,k2.setCell (by dsimp only;omega) _,h7,v8.far (p:=⟨gM,2,none⟩) (v8.gu b3 (by decide)) _⟩
 rw[<-List.append_assoc]
 exact k1.dk b3 (by decide) _
theorem qg (l:List UInt8) (hl:l.length<=1048576) (w:World) (ht:Tab w) (hm:iD w):Calls prog 84 #[.string (bs l)] w (RMx l w):=by
 have HT:=Qh ht;have HM:=Qh hm;have HL:=Qh hl;obtain⟨u1,hu1⟩:∃ u,u=w.alloc (.cells ZZ3 37):=⟨_,rfl⟩;have HO1:Hid (Below w.heap.size w u1):=by rw[hu1];exact Qb.alloc Ql _
 have HB1:Hid (Blk u1 w.heap.size 37 ZZ3):=by rw[hu1];exact Blk.new w _ _
 have hsz:u1.heap.size=w.heap.size+1:=by rw[hu1];simp
 have HSZ:=Qh hsz;clear hsz ht hm hl
 go_enter func84,ntmps84
 go_wp2_with fail
 rw[<-hu1];clear hu1;refine(pU l [59,32] (by simp) (Nat.le_trans HL.out (by omega)) u1 (HM.out.below HO1.out Ql)).mono ?_
 rintro e w1 ⟨rfl,hv,hb⟩;obtain⟨p,hp⟩:∃ p,p=(PP l).length:=⟨_,rfl⟩;have hp2:p=(Lib.split l [59,32]).length:=hp;rw[<-hp2] at hv ⊢;clear hp2;have HP:=Qh hp;obtain⟨gR,hgR⟩:∃ g,g=u1.heap.size:=⟨_,rfl⟩;rw[<-hgR] at hv ⊢;have HV:=Qh (hv.mono (base':=w.heap.size) (by have:=HSZ.out;omega))
 have HBZ:=Qh (HB1.out.aa hb);have HO:=Qh (bp hb HO1.out.size HO1.out);clear hv hb hgR hp
 by_cases hp5:5<p
 ·have hpI:(5:Int)<(p:Int):=by omega
  have zl:w.heap.size<w1.heap.size:=HBZ.out.lt;have z0:w1.cell? ⟨w.heap.size,0,none⟩=some (.int .i64 0):=HBZ.out.cell 0;have z1:w1.cell? ⟨w.heap.size,1,none⟩=some (.int .i64 0):=HBZ.out.cell 1;have z2:w1.cell? ⟨w.heap.size,2,none⟩=some (.slice none 0 0):=HBZ.out.cell 2;have y0:w1.frozen? ⟨w.heap.size,0,none⟩=false:=HBZ.out.frozen 0;have y1:w1.frozen? ⟨w.heap.size,1,none⟩=false:=HBZ.out.frozen 1;have y2:w1.frozen? ⟨w.heap.size,2,none⟩=false:=HBZ.out.frozen 2;have HBAD:=Qh (vF (l:=l) (by rw[HP.out] at hp5;exact hp5))
  go_wp2
  exact bodyPost_ret (v:= .tuple #[MV 0 0 none 0 0,.bool false]) (by simp[results,results84,go_sem,z0,z1,z2,y0,y1,y2,zl]) rfl (RMx.no HBAD.out (((HO.out.setCell Ql _).setCell Ql _).setCell Ql _))
 have hpI:(p:Int)<=5:=by omega
 obtain⟨gM,hgM⟩:∃ g,g=w1.heap.size:=⟨_,rfl⟩;have hgm:w.heap.size<gM:=by rw[hgM];exact HBZ.out.lt
 have HRO:Hid (Ro l w (w1.alloc (.cells #[.int .i64 (p:Int),.int .i64 ((0:Nat):Int),.slice none 0 0] 37)) p gR gM 0 0 none 0 0 []):=by
  refine⟨⟨Rok.start _ _,rfl⟩,HBZ.out.alloc _,?_,OS.nil _ _,HV.out.alloc _,HO.out.alloc HO.out.size _,hgm⟩;rw[hgM]
  exact Blk.new w1 _ _
 obtain⟨u2,hu2⟩:∃ u,u=w1.alloc (.cells #[.int .i64 (p:Int),.int .i64 ((0:Nat):Int),.slice none 0 0] 37):=⟨_,rfl⟩;rw[<-hu2] at HRO;have HU2:Hid (u2=w1.alloc (.cells #[.int .i64 (p:Int),.int .i64 0,.slice none 0 0] 37)):=hu2;have HGM:=Qh hgM;clear hgM hu2
 go_wp2_with fail
 rw[<-HU2.out,<-HGM.out];clear HU2 HGM
 go_loopw [24] (fun q1 wr=>∃ (k C n cap:Nat) (A:Option Addr) (vs:List Int),k<=p/\q1= .int .i64 k/\Hid (Ro l w wr p gR gM k C A n cap vs)) (fun q1 _=>p-(intOf q1).toNat)
 case atStart=>exact⟨0,0,0,0,none,[],Nat.zero_le _,rfl,HRO⟩
 case round =>
  obtain⟨k,C,n,cap,A,vs,hk,rfl,hro⟩:=hrel;obtain⟨wo,rfl⟩:∃ u:World,u=wr:=⟨_,rfl⟩
  by_cases hlt:k<p
  ·have k0:(0:Int)<=(k:Int):=by omega
   have k1:(k:Int)<(p:Int):=by omega
   have HK:Hid (k<(PP l).length):=by rw[<-HP.out];exact hlt
   obtain⟨pk,hpk⟩:∃ x,x=(PP l).getD k []:=⟨_,rfl⟩;have cx:wo.cell? ⟨gR,k,none⟩=some (.string (bs pk)):=by rw[hro.out.2.2.2.2.1.cell k (by omega),hpk];exact jh HK.out
   have HPK:=Qh hpk;have HPL:Hid (pk.length<=1048577):=by
    show _<=_
    rw[HPK.out]
    exact Nat.le_trans (bX (by simp) (eS HK.out)) (Nat.le_trans HL.out (by omega))
   clear hpk
   go_wp2_with fail
   refine(pU pk [32] (by simp) HPL.out wo (HM.out.below hro.out.2.2.2.2.2.1 Ql)).mono ?_
   rintro e w2 ⟨rfl,hv2,hb2⟩;obtain⟨q,hq⟩:∃ q,q=(Lib.split pk [32]).length:=⟨_,rfl⟩;rw[<-hq] at hv2 ⊢;have HQ:Hid ((WW l k).length=q):=by show _=_;rw[hq,HPK.out]
   obtain⟨gW,hgW⟩:∃ g,g=wo.heap.size:=⟨_,rfl⟩;rw[<-hgW] at hv2 ⊢;have HVW:Hid (VO w2 w.heap.size 9 1 (some ⟨gW,0,none⟩) q q (strs (WW l k))):=by
    have h:=hv2.mono (base':=w.heap.size) (by rw[hgW];exact hro.out.2.2.2.2.2.1.size)
    rw[HPK.out] at h
    exact h
   have HR2:=Qh (hro.out.below hb2);clear hv2 hb2 hgW hq hro;have neM:¬w.heap.size=gM:=by omega
   have neM2:¬gM=w.heap.size:=by omega
   by_cases hk0:k=0
   ·subst hk0;have gl:gM<w2.heap.size:=HR2.out.2.2.1.lt;have g0:w2.cell? ⟨gM,0,none⟩=some (.int .i64 (p:Int)):=HR2.out.2.2.1.cell 0;have g1:w2.cell? ⟨gM,1,none⟩=some (.int .i64 (C:Int)):=HR2.out.2.2.1.cell 1;have g2:w2.cell? ⟨gM,2,none⟩=some (.slice A n cap):=HR2.out.2.2.1.cell 2;have h0:w2.frozen? ⟨gM,0,none⟩=false:=HR2.out.2.2.1.frozen 0;have h1:w2.frozen? ⟨gM,1,none⟩=false:=HR2.out.2.2.1.frozen 1;have h2:w2.frozen? ⟨gM,2,none⟩=false:=HR2.out.2.2.1.frozen 2
    by_cases hq5:5<q
    ·have hqI:(5:Int)<(q:Int):=by omega
     have zl:w.heap.size<w2.heap.size:=HR2.out.2.1.lt;have z0:w2.cell? ⟨w.heap.size,0,none⟩=some (.int .i64 0):=HR2.out.2.1.cell 0;have z1:w2.cell? ⟨w.heap.size,1,none⟩=some (.int .i64 0):=HR2.out.2.1.cell 1;have z2:w2.cell? ⟨w.heap.size,2,none⟩=some (.slice none 0 0):=HR2.out.2.1.cell 2;have y0:w2.frozen? ⟨w.heap.size,0,none⟩=false:=HR2.out.2.1.frozen 0;have y1:w2.frozen? ⟨w.heap.size,1,none⟩=false:=HR2.out.2.1.frozen 1;have y2:w2.frozen? ⟨w.heap.size,2,none⟩=false:=HR2.out.2.1.frozen 2;have HBAD:=Qh (vG (k:=0) HK.out (by show 5<(WW l 0).length;rw[HQ.out];exact hq5))
     go_wp2
     exact bodyPost_ret (v:= .tuple #[MV 0 0 none 0 0,.bool false]) (by simp[results,results84,go_sem,z0,z1,z2,y0,y1,y2,zl,neM,neM2]) rfl (RMx.no HBAD.out ((((HR2.out.2.2.2.2.2.1.setCell (by dsimp only;omega) _).setCell Ql _).setCell Ql _).setCell Ql _))
    ·have hqI:(q:Int)<=5:=by omega
     have Q5:Hid (q<=5):=by show q<=5;omega
     have HRN:Hid (Rn l w (w2.setCell ⟨gM,1,none⟩ (.int .i64 (q:Int))) p gR gM gW 0 q 0 A n cap vs []):=HR2.out.E_ HVW.out;have HN:Hid (∀ j,j<q->n+j<=1000):=fun j hj=>by have h:=HR2.out.1;have h2:=h.1.1;rw[Nat.zero_mul] at h2;omega
     obtain⟨k,hk0⟩:∃ k,k=0:=⟨_,rfl⟩;replace HRN:Hid (Rn l w (w2.setCell ⟨gM,1,none⟩ (.int .i64 (q:Int))) p gR gM gW k q 0 A n cap vs []):=by rw[hk0];exact HRN
     replace HQ:Hid ((WW l k).length=q):=by rw[hk0];exact HQ
     replace HK:Hid (k<(PP l).length):=by rw[hk0];exact HK
     have HK00:=Qh hk0;clear hk0
     go_wp2_with fail
     clear HR2 HVW gl g0 g1 g2 h0 h1 h2
     go_loopw [49] (fun q1 wr=>∃ (j cap:Nat) (A:Option Addr) (ys:List Int),j<=q/\q1= .int .i64 j/\Hid (Rn l w wr p gR gM gW k q j A n cap vs ys)) (fun q1 _=>q-(intOf q1).toNat)
     case atStart=>exact⟨0,_,_,[],Nat.zero_le _,rfl,HRN⟩
     case round =>
      obtain⟨j,cap,A,ys,hj,rfl,hrn⟩:=hrel
      by_cases hjl:j<q
      ·have j0:(0:Int)<=(j:Int):=by omega
       have j1:(j:Int)<(q:Int):=by omega
       have hjW:j<(WW l k).length:=by have:=HQ.out;omega
       obtain⟨wd,hwd⟩:∃ x,x=(WW l k).getD j []:=⟨_,rfl⟩;have cx:wr.cell? ⟨gW,j,none⟩=some (.string (bs wd)):=by rw[hrn.out.2.2.2.2.2.2.2.cell j (by omega),hwd];exact jh hjW
       have HWD:=Qh hwd;have HWL:Hid (wd.length<=1048576):=by
        show _<=_
        rw[HWD.out]
        exact Nat.le_trans (bX (by simp) (eS hjW)) (Nat.le_trans (bX (by simp) (eS HK.out)) HL.out)
       clear hwd
       go_wp2_with fail
       refine(lY wd HWL.out wr (HT.out.below hrn.out.2.2.2.2.2.1 Ql) (HM.out.below hrn.out.2.2.2.2.2.1 Ql)).mono ?_;rintro e w3 ⟨v,ok,rfl,hrf,hb3⟩;have HRN3:=Qh (hrn.out.below hb3);have HRF:=Qh hrf;clear hb3 hrn hrf
       cases ok
       ·have zl:w.heap.size<w3.heap.size:=HRN3.out.2.1.lt;have z0:w3.cell? ⟨w.heap.size,0,none⟩=some (.int .i64 0):=HRN3.out.2.1.cell 0;have z1:w3.cell? ⟨w.heap.size,1,none⟩=some (.int .i64 0):=HRN3.out.2.1.cell 1;have z2:w3.cell? ⟨w.heap.size,2,none⟩=some (.slice none 0 0):=HRN3.out.2.1.cell 2;have y0:w3.frozen? ⟨w.heap.size,0,none⟩=false:=HRN3.out.2.1.frozen 0;have y1:w3.frozen? ⟨w.heap.size,1,none⟩=false:=HRN3.out.2.1.frozen 1;have y2:w3.frozen? ⟨w.heap.size,2,none⟩=false:=HRN3.out.2.1.frozen 2;have HBAD:=Qh (Ej HK.out (w:=wd) (by rw[HWD.out];exact eS hjW) HRF.out)
        go_wp2
        exact bodyPost_ret (v:= .tuple #[MV 0 0 none 0 0,.bool false]) (by simp[results,results84,go_sem,z0,z1,z2,y0,y1,y2,zl]) rfl (RMx.no HBAD.out (((HRN3.out.2.2.2.2.2.1.setCell Ql _).setCell Ql _).setCell Ql _))
       ·obtain⟨hv,hfx⟩:=HRF.out.num;have HV:=Qh hv;have HFX:=Qh hfx;clear hv hfx;have gl:gM<w3.heap.size:=HRN3.out.2.2.1.lt;have g0:w3.cell? ⟨gM,0,none⟩=some (.int .i64 (p:Int)):=HRN3.out.2.2.1.cell 0;have g1:w3.cell? ⟨gM,1,none⟩=some (.int .i64 (q:Int)):=HRN3.out.2.2.1.cell 1;have g2:w3.cell? ⟨gM,2,none⟩=some (.slice A (n+j) cap):=HRN3.out.2.2.1.cell 2;have h0:w3.frozen? ⟨gM,0,none⟩=false:=HRN3.out.2.2.1.frozen 0;have h1:w3.frozen? ⟨gM,1,none⟩=false:=HRN3.out.2.2.1.frozen 1;have h2:w3.frozen? ⟨gM,2,none⟩=false:=HRN3.out.2.2.1.frozen 2;have HNJ:Hid (n+j<=1000):=HN.out j hjl;have hsz:w.heap.size<=w3.heap.size:=HRN3.out.2.2.2.2.2.1.size;obtain⟨i0',hi,hz0,hz1,hz2⟩:=info_parts eU
        go_wp2_with (at_builtin;refine wpList_append_lies _ rfl _ _ 35 rfl w.heap.size 3 i0' (.int .i64 0) 1 8 underlying35 hi hz0 hz1 hz2 rfl (by decide) (.slice A (n+j) cap) (n+j) _ rfl (World.ownsRow.alloc HRN3.out.2.2.2.1 _) ⟨w3.heap.size,0,none⟩ 1 1 [.int .i64 v] rfl rfl ?c1 ?c2 ?c3 ?c4 ?c5 ?c6 (w3.heap.size+1) ?c7 ?_)
        case c1=>exact fk _ _ _
        case c2=>simp[Value.oneCell']
        case c3=>omega
        case c4=>have:=HNJ.out;unfold maxLen;omega
        case c5=>have:=HNJ.out;omega
        case c6=>simp;omega
        case c7=>simp
        intro g cap' w4 hown hgrow hat _;obtain⟨hbm,hnx⟩:=HRN3.out.push hjW HV.out (by rw[<-HWD.out];exact HFX.out) (by simpa using hown) hgrow hat
        have HNX:=Qh hnx;have k2:w4.frozen? ⟨gM,2,none⟩=false:=hbm.frozen 2;have k3:w4.cell? ⟨gM,2,none⟩=some (.slice A (n+j) cap):=hbm.cell 2;clear gl g0 g1 g2 h0 h1 h2;clear hown hgrow hat hbm hnx HRN3 hsz;go_wp2
        go_roundw
        case rel=>exact⟨j+1,cap',_,_,by omega,by go_num,HNX⟩
        case measure=>simp[intOf];omega
      ·obtain rfl:j=q:=by omega
       have HRO:=Qh (hrn.out.outer HK.out HQ.out Q5.out);clear hrn;go_wp2
       go_roundw
       case rel=>exact⟨1,j,n+j,cap,A,_,by omega,by go_num,by have e:=HK00.out;subst e;exact HRO⟩
       case measure=>simp[intOf];omega
   ·have hkI:(0:Int)<(k:Int):=by omega
    have hkb:((k:Int) == 0)=false:=by simp;omega
    have gl:gM<w2.heap.size:=HR2.out.2.2.1.lt;have g0:w2.cell? ⟨gM,0,none⟩=some (.int .i64 (p:Int)):=HR2.out.2.2.1.cell 0;have g1:w2.cell? ⟨gM,1,none⟩=some (.int .i64 (C:Int)):=HR2.out.2.2.1.cell 1;have g2:w2.cell? ⟨gM,2,none⟩=some (.slice A n cap):=HR2.out.2.2.1.cell 2;have h0:w2.frozen? ⟨gM,0,none⟩=false:=HR2.out.2.2.1.frozen 0;have h1:w2.frozen? ⟨gM,1,none⟩=false:=HR2.out.2.2.1.frozen 1;have h2:w2.frozen? ⟨gM,2,none⟩=false:=HR2.out.2.2.1.frozen 2
    by_cases hqc:q=C
    ·obtain rfl:C=q:=hqc.symm;have Q5:Hid (C<=5):=((HR2.out.1.1.2.2.1 (by omega)).2.1)
     have hqI:(C:Int)<=5:=by have:=Q5.out;omega
     have HRN:Hid (Rn l w w2 p gR gM gW k C 0 A n cap vs []):=HR2.out.inner HVW.out;have HN:Hid (∀ j,j<C->n+j<=1000):=fun j hj=>by
      have h:=HR2.out.1;have h2:=h.1.1;have h3:k*C<=5*5:=Nat.mul_le_mul (by omega) Q5.out
      have h4:=Q5.out
      omega
     go_wp2_with fail
     clear HR2 HVW gl g0 g1 g2 h0 h1 h2
     go_loopw [49] (fun q1 wr=>∃ (j cap:Nat) (A:Option Addr) (ys:List Int),j<=C/\q1= .int .i64 j/\Hid (Rn l w wr p gR gM gW k C j A n cap vs ys)) (fun q1 _=>C-(intOf q1).toNat)
     case atStart=>exact⟨0,_,_,[],Nat.zero_le _,rfl,HRN⟩
     case round =>
      obtain⟨j,cap,A,ys,hj,rfl,hrn⟩:=hrel
      by_cases hjl:j<C
      ·have j0:(0:Int)<=(j:Int):=by omega
       have j1:(j:Int)<(C:Int):=by omega
       have hjW:j<(WW l k).length:=by have:=HQ.out;omega
       obtain⟨wd,hwd⟩:∃ x,x=(WW l k).getD j []:=⟨_,rfl⟩;have cx:wr.cell? ⟨gW,j,none⟩=some (.string (bs wd)):=by rw[hrn.out.2.2.2.2.2.2.2.cell j (by omega),hwd];exact jh hjW
       have HWD:=Qh hwd;have HWL:Hid (wd.length<=1048576):=by
        show _<=_
        rw[HWD.out]
        exact Nat.le_trans (bX (by simp) (eS hjW)) (Nat.le_trans (bX (by simp) (eS HK.out)) HL.out)
       clear hwd
       go_wp2_with fail
       refine(lY wd HWL.out wr (HT.out.below hrn.out.2.2.2.2.2.1 Ql) (HM.out.below hrn.out.2.2.2.2.2.1 Ql)).mono ?_;rintro e w3 ⟨v,ok,rfl,hrf,hb3⟩;have HRN3:=Qh (hrn.out.below hb3);have HRF:=Qh hrf;clear hb3 hrn hrf
       cases ok
       ·have zl:w.heap.size<w3.heap.size:=HRN3.out.2.1.lt;have z0:w3.cell? ⟨w.heap.size,0,none⟩=some (.int .i64 0):=HRN3.out.2.1.cell 0;have z1:w3.cell? ⟨w.heap.size,1,none⟩=some (.int .i64 0):=HRN3.out.2.1.cell 1;have z2:w3.cell? ⟨w.heap.size,2,none⟩=some (.slice none 0 0):=HRN3.out.2.1.cell 2;have y0:w3.frozen? ⟨w.heap.size,0,none⟩=false:=HRN3.out.2.1.frozen 0;have y1:w3.frozen? ⟨w.heap.size,1,none⟩=false:=HRN3.out.2.1.frozen 1;have y2:w3.frozen? ⟨w.heap.size,2,none⟩=false:=HRN3.out.2.1.frozen 2;have HBAD:=Qh (Ej HK.out (w:=wd) (by rw[HWD.out];exact eS hjW) HRF.out)
        go_wp2
        exact bodyPost_ret (v:= .tuple #[MV 0 0 none 0 0,.bool false]) (by simp[results,results84,go_sem,z0,z1,z2,y0,y1,y2,zl]) rfl (RMx.no HBAD.out (((HRN3.out.2.2.2.2.2.1.setCell Ql _).setCell Ql _).setCell Ql _))
       ·obtain⟨hv,hfx⟩:=HRF.out.num;have HV:=Qh hv;have HFX:=Qh hfx;clear hv hfx;have gl:gM<w3.heap.size:=HRN3.out.2.2.1.lt;have g0:w3.cell? ⟨gM,0,none⟩=some (.int .i64 (p:Int)):=HRN3.out.2.2.1.cell 0;have g1:w3.cell? ⟨gM,1,none⟩=some (.int .i64 (C:Int)):=HRN3.out.2.2.1.cell 1;have g2:w3.cell? ⟨gM,2,none⟩=some (.slice A (n+j) cap):=HRN3.out.2.2.1.cell 2;have h0:w3.frozen? ⟨gM,0,none⟩=false:=HRN3.out.2.2.1.frozen 0;have h1:w3.frozen? ⟨gM,1,none⟩=false:=HRN3.out.2.2.1.frozen 1;have h2:w3.frozen? ⟨gM,2,none⟩=false:=HRN3.out.2.2.1.frozen 2;have HNJ:Hid (n+j<=1000):=HN.out j hjl;have hsz:w.heap.size<=w3.heap.size:=HRN3.out.2.2.2.2.2.1.size;obtain⟨i0',hi,hz0,hz1,hz2⟩:=info_parts eU
        go_wp2_with (at_builtin;refine wpList_append_lies _ rfl _ _ 35 rfl w.heap.size 3 i0' (.int .i64 0) 1 8 underlying35 hi hz0 hz1 hz2 rfl (by decide) (.slice A (n+j) cap) (n+j) _ rfl (World.ownsRow.alloc HRN3.out.2.2.2.1 _) ⟨w3.heap.size,0,none⟩ 1 1 [.int .i64 v] rfl rfl ?c1 ?c2 ?c3 ?c4 ?c5 ?c6 (w3.heap.size+1) ?c7 ?_)
        case c1=>exact fk _ _ _
        case c2=>simp[Value.oneCell']
        case c3=>omega
        case c4=>have:=HNJ.out;unfold maxLen;omega
        case c5=>have:=HNJ.out;omega
        case c6=>simp;omega
        case c7=>simp
        intro g cap' w4 hown hgrow hat _;obtain⟨hbm,hnx⟩:=HRN3.out.push hjW HV.out (by rw[<-HWD.out];exact HFX.out) (by simpa using hown) hgrow hat
        have HNX:=Qh hnx;have k2:w4.frozen? ⟨gM,2,none⟩=false:=hbm.frozen 2;have k3:w4.cell? ⟨gM,2,none⟩=some (.slice A (n+j) cap):=hbm.cell 2;clear gl g0 g1 g2 h0 h1 h2;clear hown hgrow hat hbm hnx HRN3 hsz;go_wp2
        go_roundw
        case rel=>exact⟨j+1,cap',_,_,by omega,by go_num,HNX⟩
        case measure=>simp[intOf];omega
      ·obtain rfl:j=C:=by omega
       have HRO:=Qh (hrn.out.outer HK.out HQ.out Q5.out);clear hrn;go_wp2
       go_roundw
       case rel=>exact⟨k+1,j,n+j,cap,A,_,by omega,by go_num,HRO⟩
       case measure=>simp[intOf];omega
    ·have hqb:((q:Int) == (C:Int))=false:=by simp;omega
     have zl:w.heap.size<w2.heap.size:=HR2.out.2.1.lt;have z0:w2.cell? ⟨w.heap.size,0,none⟩=some (.int .i64 0):=HR2.out.2.1.cell 0;have z1:w2.cell? ⟨w.heap.size,1,none⟩=some (.int .i64 0):=HR2.out.2.1.cell 1;have z2:w2.cell? ⟨w.heap.size,2,none⟩=some (.slice none 0 0):=HR2.out.2.1.cell 2;have y0:w2.frozen? ⟨w.heap.size,0,none⟩=false:=HR2.out.2.1.frozen 0;have y1:w2.frozen? ⟨w.heap.size,1,none⟩=false:=HR2.out.2.1.frozen 1;have y2:w2.frozen? ⟨w.heap.size,2,none⟩=false:=HR2.out.2.1.frozen 2;have HBAD:=Qh (vE HK.out (by omega) HR2.out.1.1 (by show (WW l k).length≠C;rw[HQ.out];exact hqc))
     go_wp2
     exact bodyPost_ret (v:= .tuple #[MV 0 0 none 0 0,.bool false]) (by simp[results,results84,go_sem,z0,z1,z2,y0,y1,y2,zl,neM,neM2]) rfl (RMx.no HBAD.out (((HR2.out.2.2.2.2.2.1.setCell Ql _).setCell Ql _).setCell Ql _))
  ·obtain rfl:k=p:=by omega
   have zl:w.heap.size<wo.heap.size:=hro.out.2.1.lt;have z0:wo.cell? ⟨w.heap.size,0,none⟩=some (.int .i64 0):=hro.out.2.1.cell 0;have z1:wo.cell? ⟨w.heap.size,1,none⟩=some (.int .i64 0):=hro.out.2.1.cell 1;have z2:wo.cell? ⟨w.heap.size,2,none⟩=some (.slice none 0 0):=hro.out.2.1.cell 2;have y0:wo.frozen? ⟨w.heap.size,0,none⟩=false:=hro.out.2.1.frozen 0;have y1:wo.frozen? ⟨w.heap.size,1,none⟩=false:=hro.out.2.1.frozen 1;have y2:wo.frozen? ⟨w.heap.size,2,none⟩=false:=hro.out.2.1.frozen 2;have gl:gM<wo.heap.size:=hro.out.2.2.1.lt;have g0:wo.cell? ⟨gM,0,none⟩=some (.int .i64 (k:Int)):=hro.out.2.2.1.cell 0;have g1:wo.cell? ⟨gM,1,none⟩=some (.int .i64 (C:Int)):=hro.out.2.2.1.cell 1;have g2:wo.cell? ⟨gM,2,none⟩=some (.slice A n cap):=hro.out.2.2.1.cell 2;have h0:wo.frozen? ⟨gM,0,none⟩=false:=hro.out.2.2.1.frozen 0;have h1:wo.frozen? ⟨gM,1,none⟩=false:=hro.out.2.2.1.frozen 1;have h2:wo.frozen? ⟨gM,2,none⟩=false:=hro.out.2.2.1.frozen 2;have HG:Hid (RMp l ⟨(k:Int),(C:Int),vs⟩ true):=by
    have h:=hro.out.1.1;have e:=HP.out;have h2:=vU (l:=l) (C:=C) (vs:=vs) (by rw[<-e];exact h) (by rw[<-e];omega)
    rw[<-e] at h2
    exact h2
   have HFIN:Hid (∀ W:World,Below wo.heap.size wo W->True):=fun _ _=>trivial
   have HNL:=Qh hro.out.1.2;have neM:¬w.heap.size=gM:=by omega
   have neM2:¬gM=w.heap.size:=by omega
   have hos:=hro.out.2.2.2.1;have hbz:=hro.out.2.1;have HOS2:=Qh (((hos.dk hbz (by decide) (.int .i64 (k:Int)) (i:=0)).dk (hbz.dc 0 _) (by decide) (.int .i64 (C:Int)) (i:=1)).dk ((hbz.dc 0 _).dc 1 _) (by decide) (.slice A n cap) (i:=2))
   clear hos hbz;go_wp2
   exact bodyPost_ret (v:= .tuple #[MV (k:Int) (C:Int) A n cap,.bool true]) (by simp[results,results84,go_sem,z0,z1,z2,y0,y1,y2,zl,g0,g1,g2,neM,neM2]) rfl ⟨⟨(k:Int),(C:Int),vs⟩,true,A,cap,by dsimp only;rw[HNL.out],by dsimp only;rw[HNL.out];exact HOS2.out,HG.out,(((hro.out.2.2.2.2.2.1.setCell Ql _).setCell Ql _).setCell Ql _)⟩
end Go.Proofs.YtjciicheoghcdaaGreatDoor
