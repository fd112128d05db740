/- Part of the proof: the law FnServiceRun is true for every input. -/
import Derived.Test.YtjciicheoghcdaaGreatDoorVa
import Derived.Test.YtjciicheoghcdaaGreatDoorVg
import Derived.Test.YtjciicheoghcdaaGreatDoorVq
import Derived.Test.YtjciicheoghcdaaGreatDoorVr
import Derived.Test.YtjciicheoghcdaaGreatDoorVv
import Derived.Test.YtjciicheoghcdaaGreatDoorVw
namespace Go.Proofs.YtjciicheoghcdaaGreatDoor
open Go.RowKit Go.Proofs.Tryz
set_option linter.all false
set_option maxRecDepth 20000
set_option maxHeartbeats 16000000
def RMx (l:List UInt8) (w:World) (e:Ending) (w':World):Prop:=∃ (m:Mx) (ok:Bool) (A:Option Addr) (c:Nat),e= .returned (.tuple #[MV m.r m.c A m.v.length c,.bool ok])/\OS w' w.heap.size A m.v.length c m.v/\RMp l m ok/\Below w.heap.size w w'
theorem RMx.no {l:List UInt8} {w w':World} (h:RMp l Mx.z false) (hb:Below w.heap.size w w'):RMx l w (.returned (.tuple #[MV 0 0 none 0 0,.bool false])) w':=⟨Mx.z,false,none,0,rfl,OS.nil _ _,h,hb⟩
theorem mZ {w:World} {b1 b2 n1 n2 c1 c2 s1 s2:Nat} {A B:Option Addr} {v1 v2:List Value} {T1 T2:TypeId} (h1:VO w b1 T1 s1 A n1 c1 v1) (h2:VO w b2 T2 s2 B n2 c2 v2) (hne:T2≠T1):eJ A B:=fun g ha hb=>by
 rcases h1.2 with⟨e,_⟩|⟨g1,k1,cur1,e,_,hh1,_⟩
 ·injection e with e;subst e;cases ha
 ·rcases h2.2 with⟨e2,_⟩|⟨g2,k2,cur2,e2,_,hh2,_⟩
  ·injection e2 with e2;subst e2;cases hb
  ·injection e with e;injection e2 with e2;subst e e2;injection ha with ha;injection hb with hb
   dsimp only at ha hb
   subst ha hb;rw[hh1] at hh2;injection hh2 with hh2;injection hh2 with _ hh2
   exact hne hh2.symm
abbrev PP (l:List UInt8):List (List UInt8):=Lib.split l [59,32]
abbrev WW (l:List UInt8) (k:Nat):List (List UInt8):=Lib.split ((PP l).getD k []) [32]
abbrev ZZ3:Array Value:=#[.int .i64 0,.int .i64 0,.slice none 0 0]
def Ro (l:List UInt8) (w wr:World) (p gR gM k C:Nat) (A:Option Addr) (n cap:Nat) (vs:List Int):Prop :=
 (Rok (PP l) C k vs/\vs.length=n)/\Blk wr w.heap.size 37 ZZ3/\Blk wr gM 37 #[.int .i64 (p:Int),.int .i64 (C:Int),.slice A n cap]/\OS wr w.heap.size A n cap vs /\
 VO wr w.heap.size 9 1 (some ⟨gR,0,none⟩) p p (strs (PP l))/\Below w.heap.size w wr/\w.heap.size<gM
theorem Ro.below {l:List UInt8} {w wr w1:World} {p gR gM k C n cap:Nat} {A:Option Addr} {vs:List Int} (h:Ro l w wr p gR gM k C A n cap vs) (hb:Below wr.heap.size wr w1):Ro l w w1 p gR gM k C A n cap vs:=by
 obtain⟨h1,h2,h3,h4,h5,h6,h7⟩:=h
 exact⟨h1,h2.aa hb,h3.aa hb,h4.below hb,h5.below hb,bp hb h6.size h6,h7⟩
def Rn (l:List UInt8) (w wr:World) (p gR gM gW k C j:Nat) (A:Option Addr) (n cap:Nat) (vs ys:List Int):Prop :=
 (Rok (PP l) C k vs/\vs.length=n/\Rjk (WW l k) j ys)/\Blk wr w.heap.size 37 ZZ3/\Blk wr gM 37 #[.int .i64 (p:Int),.int .i64 (C:Int),.slice A (n+j) cap]/\OS wr w.heap.size A (n+j) cap (vs++ys) /\
 VO wr w.heap.size 9 1 (some ⟨gR,0,none⟩) p p (strs (PP l))/\Below w.heap.size w wr/\w.heap.size<gM/\VO wr w.heap.size 9 1 (some ⟨gW,0,none⟩) C C (strs (WW l k))
theorem Rn.below {l:List UInt8} {w wr w1:World} {p gR gM gW k C j n cap:Nat} {A:Option Addr} {vs ys:List Int} (h:Rn l w wr p gR gM gW k C j A n cap vs ys) (hb:Below wr.heap.size wr w1):Rn l w w1 p gR gM gW k C j A n cap vs ys:=by
 obtain⟨h1,h2,h3,h4,h5,h6,h7,h8⟩:=h
 exact⟨h1,h2.aa hb,h3.aa hb,h4.below hb,h5.below hb,bp hb h6.size h6,h7,h8.below hb⟩
theorem Ro.inner {l:List UInt8} {w wr:World} {p gR gM gW k C n cap:Nat} {A:Option Addr} {vs:List Int} (h:Ro l w wr p gR gM k C A n cap vs) (hw:VO wr w.heap.size 9 1 (some ⟨gW,0,none⟩) C C (strs (WW l k))):Rn l w wr p gR gM gW k C 0 A n cap vs []:=by
 obtain⟨⟨h1,h0⟩,h2,h3,h4,h5,h6,h7⟩:=h
 exact⟨⟨h1,h0,Rjk.start _⟩,h2,h3,by rw[List.append_nil];exact h4,h5,h6,h7,hw⟩
theorem Ro.E_ {l:List UInt8} {w wr:World} {p gR gM gW C q n cap:Nat} {A:Option Addr} {vs:List Int} (h:Ro l w wr p gR gM 0 C A n cap vs) (hw:VO wr w.heap.size 9 1 (some ⟨gW,0,none⟩) q q (strs (WW l 0))):Rn l w (wr.setCell ⟨gM,1,none⟩ (.int .i64 (q:Int))) p gR gM gW 0 q 0 A n cap vs []:=by
 obtain⟨⟨h1,h0⟩,h2,h3,h4,h5,h6,h7⟩:=h;have hv:vs=[]:=by have:=h1.1;rw[Nat.zero_mul] at this;exact List.eq_nil_of_length_eq_zero this
 subst hv
 exact⟨⟨Rok.start _ _,h0,Rjk.start _⟩,h2.far (p:=⟨gM,1,none⟩) (by dsimp only;omega) _,h3.dc 1 _,by rw[List.append_nil];exact h4.dk h3 (by decide) _,h5.far (p:=⟨gM,1,none⟩) (h5.gu h3 (by decide)) _,h6.setCell (by dsimp only;omega) _,h7,hw.far (p:=⟨gM,1,none⟩) (hw.gu h3 (by decide)) _⟩
theorem Rn.outer {l:List UInt8} {w wr:World} {p gR gM gW k C n cap:Nat} {A:Option Addr} {vs ys:List Int} (h:Rn l w wr p gR gM gW k C C A n cap vs ys) (hk:k<(PP l).length) (hC:(WW l k).length=C) (C5:C<=5):Ro l w wr p gR gM (k+1) C A (n+C) cap (vs++ys):=by
 obtain⟨⟨h1,h0,hy⟩,h2,h3,h4,h5,h6,h7,h8⟩:=h
 exact⟨⟨h1.next hk hy hC C5,by rw[List.length_append,h0,hy.1]⟩,h2,h3,h4,h5,h6,h7⟩
theorem Rn.push {l:List UInt8} {w wr w1:World} {p gR gM gW k C j n cap g cap':Nat} {A:Option Addr} {vs ys:List Int} {v:Int} {o:Obj} (h:Rn l w wr p gR gM gW k C j A n cap vs ys) (hj:j<(WW l k).length) (hv:0<=v/\v<=4095) (he:fx v=(WW l k).getD j [])
  (hown:w1.ownsRow w.heap.size 3 1 (.slice (some ⟨g,0,none⟩) (n+j+1) cap') (n+j+1) ((vs++ys).map (Value.int .i64)++[.int .i64 v])) (hg:(wr.alloc o).grownBy w1 (Value.slice A (n+j) cap).ownBlock)
  (hat:(Value.slice A (n+j) cap).ownBlock=some g\/g=wr.heap.size+1) :
  Blk w1 gM 37 #[.int .i64 (p:Int),.int .i64 (C:Int),.slice A (n+j) cap]/\Rn l w (w1.setCell ⟨gM,2,none⟩ (.slice (some ⟨g,0,none⟩) (n+j+1) cap')) p gR gM gW k C (j+1) (some ⟨g,0,none⟩) n cap' vs (ys++[v]):=by
 obtain⟨⟨h1,h0,hy⟩,h2,h3,h4,h5,h6,h7,h8⟩:=h;obtain⟨k1,k2,k3,_⟩:=fS h4 h6 h6.size hown hg hat;have n2:=bf h4 h2 (by decide)
 have n3:=bf h4 h3 (by decide)
 have b3:=h3.bR k3 n3;have v5:=h5.bR k3 (mZ h5 h4 (by decide))
 have v8:=h8.bR k3 (mZ h8 h4 (by decide))
 refine⟨b3,⟨h1,h0,hy.step hj hv he⟩,(h2.bR k3 n2).far (p:=⟨gM,2,none⟩) (by dsimp only;omega) _,b3.dc 2 _,?_,v5.far (p:=⟨gM,2,none⟩) (v5.gu b3 (by decide)) _,k2.setCell (by dsimp only;omega) _,h7,v8.far (p:=⟨gM,2,none⟩) (v8.gu b3 (by decide)) _⟩
 rw[<-List.append_assoc]
 exact k1.dk b3 (by decide) _
theorem qg (l:List UInt8) (hl:l.length<=1048576) (w:World) (ht:Tab w) (hm:iD w):Calls prog 84 #[.string (bs l)] w (RMx l w):=by
 have HT:=Qh ht;have HM:=Qh hm;have HL:=Qh hl;obtain⟨u1,hu1⟩:∃ u,u=w.alloc (.cells ZZ3 37):=⟨_,rfl⟩;have HO1:Hid (Below w.heap.size w u1):=by rw[hu1];exact Qb.alloc Ql _
 have HB1:Hid (Blk u1 w.heap.size 37 ZZ3):=by rw[hu1];exact Blk.new w _ _
 have hsz:u1.heap.size=w.heap.size+1:=by rw[hu1];simp
 have HSZ:=Qh hsz;clear hsz ht hm hl
 go_enter func84,ntmps84
 go_wp2_with fail
 rw[<-hu1];clear hu1;refine(pU l [59,32] (by simp) (Nat.le_trans HL.out (by omega)) u1 (HM.out.below HO1.out Ql)).mono ?_
 rintro e w1 ⟨rfl,hv,hb⟩;obtain⟨p,hp⟩:∃ p,p=(PP l).length:=⟨_,rfl⟩;have hp2:p=(Lib.split l [59,32]).length:=hp;rw[<-hp2] at hv ⊢;clear hp2;have HP:=Qh hp;obtain⟨gR,hgR⟩:∃ g,g=u1.heap.size:=⟨_,rfl⟩;rw[<-hgR] at hv ⊢;have HV:=Qh (hv.mono (base':=w.heap.size) (by have:=HSZ.out;omega))
 have HBZ:=Qh (HB1.out.aa hb);have HO:=Qh (bp hb HO1.out.size HO1.out);clear hv hb hgR hp
 by_cases hp5:5<p
 ·have hpI:(5:Int)<(p:Int):=by omega
  have zl:w.heap.size<w1.heap.size:=HBZ.out.lt;have z0:w1.cell? ⟨w.heap.size,0,none⟩=some (.int .i64 0):=HBZ.out.cell 0;have z1:w1.cell? ⟨w.heap.size,1,none⟩=some (.int .i64 0):=HBZ.out.cell 1;have z2:w1.cell? ⟨w.heap.size,2,none⟩=some (.slice none 0 0):=HBZ.out.cell 2;have y0:w1.frozen? ⟨w.heap.size,0,none⟩=false:=HBZ.out.frozen 0;have y1:w1.frozen? ⟨w.heap.size,1,none⟩=false:=HBZ.out.frozen 1;have y2:w1.frozen? ⟨w.heap.size,2,none⟩=false:=HBZ.out.frozen 2;have HBAD:=Qh (vF (l:=l) (by rw[HP.out] at hp5;exact hp5))
  go_wp2
  exact bodyPost_ret (v:= .tuple #[MV 0 0 none 0 0,.bool false]) (by simp[results,results84,go_sem,z0,z1,z2,y0,y1,y2,zl]) rfl (RMx.no HBAD.out (((HO.out.setCell Ql _).setCell Ql _).setCell Ql _))
 have hpI:(p:Int)<=5:=by omega
 obtain⟨gM,hgM⟩:∃ g,g=w1.heap.size:=⟨_,rfl⟩;have hgm:w.heap.size<gM:=by rw[hgM];exact HBZ.out.lt
 have HRO:Hid (Ro l w (w1.alloc (.cells #[.int .i64 (p:Int),.int .i64 ((0:Nat):Int),.slice none 0 0] 37)) p gR gM 0 0 none 0 0 []):=by
  refine⟨⟨Rok.start _ _,rfl⟩,HBZ.out.alloc _,?_,OS.nil _ _,HV.out.alloc _,HO.out.alloc HO.out.size _,hgm⟩;rw[hgM]
  exact Blk.new w1 _ _
 obtain⟨u2,hu2⟩:∃ u,u=w1.alloc (.cells #[.int .i64 (p:Int),.int .i64 ((0:Nat):Int),.slice none 0 0] 37):=⟨_,rfl⟩;rw[<-hu2] at HRO;have HU2:Hid (u2=w1.alloc (.cells #[.int .i64 (p:Int),.int .i64 0,.slice none 0 0] 37)):=hu2;have HGM:=Qh hgM;clear hgM hu2
 go_wp2_with fail
 rw[<-HU2.out,<-HGM.out];clear HU2 HGM
 go_loopw [24] (fun q1 wr=>∃ (k C n cap:Nat) (A:Option Addr) (vs:List Int),k<=p/\q1= .int .i64 k/\Hid (Ro l w wr p gR gM k C A n cap vs)) (fun q1 _=>p-(intOf q1).toNat)
 case atStart=>exact⟨0,0,0,0,none,[],Nat.zero_le _,rfl,HRO⟩
 case round =>
  obtain⟨k,C,n,cap,A,vs,hk,rfl,hro⟩:=hrel;obtain⟨wo,rfl⟩:∃ u:World,u=wr:=⟨_,rfl⟩
  by_cases hlt:k<p
  ·have k0:(0:Int)<=(k:Int):=by omega
   have k1:(k:Int)<(p:Int):=by omega
   have HK:Hid (k<(PP l).length):=by rw[<-HP.out];exact hlt
   obtain⟨pk,hpk⟩:∃ x,x=(PP l).getD k []:=⟨_,rfl⟩;have cx:wo.cell? ⟨gR,k,none⟩=some (.string (bs pk)):=by rw[hro.out.2.2.2.2.1.cell k (by omega),hpk];exact jh HK.out
   have HPK:=Qh hpk;have HPL:Hid (pk.length<=1048577):=by
    show _<=_
    rw[HPK.out]
    exact Nat.le_trans (bX (by simp) (eS HK.out)) (Nat.le_trans HL.out (by omega))
   clear hpk
   go_wp2_with fail
   refine(pU pk [32] (by simp) HPL.out wo (HM.out.below hro.out.2.2.2.2.2.1 Ql)).mono ?_
   rintro e w2 ⟨rfl,hv2,hb2⟩;obtain⟨q,hq⟩:∃ q,q=(Lib.split pk [32]).length:=⟨_,rfl⟩;rw[<-hq] at hv2 ⊢;have HQ:Hid ((WW l k).length=q):=by show _=_;rw[hq,HPK.out]
   obtain⟨gW,hgW⟩:∃ g,g=wo.heap.size:=⟨_,rfl⟩;rw[<-hgW] at hv2 ⊢;have HVW:Hid (VO w2 w.heap.size 9 1 (some ⟨gW,0,none⟩) q q (strs (WW l k))):=by
    have h:=hv2.mono (base':=w.heap.size) (by rw[hgW];exact hro.out.2.2.2.2.2.1.size)
    rw[HPK.out] at h
    exact h
   have HR2:=Qh (hro.out.below hb2);clear hv2 hb2 hgW hq hro;have neM:¬w.heap.size=gM:=by omega
   have neM2:¬gM=w.heap.size:=by omega
   by_cases hk0:k=0
   ·subst hk0;have gl:gM<w2.heap.size:=HR2.out.2.2.1.lt;have g0:w2.cell? ⟨gM,0,none⟩=some (.int .i64 (p:Int)):=HR2.out.2.2.1.cell 0;have g1:w2.cell? ⟨gM,1,none⟩=some (.int .i64 (C:Int)):=HR2.out.2.2.1.cell 1;have g2:w2.cell? ⟨gM,2,none⟩=some (.slice A n cap):=HR2.out.2.2.1.cell 2;have h0:w2.frozen? ⟨gM,0,none⟩=false:=HR2.out.2.2.1.frozen 0;have h1:w2.frozen? ⟨gM,1,none⟩=false:=HR2.out.2.2.1.frozen 1;have h2:w2.frozen? ⟨gM,2,none⟩=false:=HR2.out.2.2.1.frozen 2
    by_cases hq5:5<q
    ·have hqI:(5:Int)<(q:Int):=by omega
     have zl:w.heap.size<w2.heap.size:=HR2.out.2.1.lt;have z0:w2.cell? ⟨w.heap.size,0,none⟩=some (.int .i64 0):=HR2.out.2.1.cell 0;have z1:w2.cell? ⟨w.heap.size,1,none⟩=some (.int .i64 0):=HR2.out.2.1.cell 1;have z2:w2.cell? ⟨w.heap.size,2,none⟩=some (.slice none 0 0):=HR2.out.2.1.cell 2;have y0:w2.frozen? ⟨w.heap.size,0,none⟩=false:=HR2.out.2.1.frozen 0;have y1:w2.frozen? ⟨w.heap.size,1,none⟩=false:=HR2.out.2.1.frozen 1;have y2:w2.frozen? ⟨w.heap.size,2,none⟩=false:=HR2.out.2.1.frozen 2;have HBAD:=Qh (vG (k:=0) HK.out (by show 5<(WW l 0).length;rw[HQ.out];exact hq5))
     go_wp2
     exact bodyPost_ret (v:= .tuple #[MV 0 0 none 0 0,.bool false]) (by simp[results,results84,go_sem,z0,z1,z2,y0,y1,y2,zl,neM,neM2]) rfl (RMx.no HBAD.out ((((HR2.out.2.2.2.2.2.1.setCell (by dsimp only;omega) _).setCell Ql _).setCell Ql _).setCell Ql _))
    ·have hqI:(q:Int)<=5:=by omega
     have Q5:Hid (q<=5):=by show q<=5;omega
     have HRN:Hid (Rn l w (w2.setCell ⟨gM,1,none⟩ (.int .i64 (q:Int))) p gR gM gW 0 q 0 A n cap vs []):=HR2.out.E_ HVW.out;have HN:Hid (∀ j,j<q->n+j<=1000):=fun j hj=>by have h:=HR2.out.1;have h2:=h.1.1;rw[Nat.zero_mul] at h2;omega
     obtain⟨k,hk0⟩:∃ k,k=0:=⟨_,rfl⟩;replace HRN:Hid (Rn l w (w2.setCell ⟨gM,1,none⟩ (.int .i64 (q:Int))) p gR gM gW k q 0 A n cap vs []):=by rw[hk0];exact HRN
     replace HQ:Hid ((WW l k).length=q):=by rw[hk0];exact HQ
     replace HK:Hid (k<(PP l).length):=by rw[hk0];exact HK
     have HK00:=Qh hk0;clear hk0
     go_wp2_with fail
     clear HR2 HVW gl g0 g1 g2 h0 h1 h2
     go_loopw [49] (fun q1 wr=>∃ (j cap:Nat) (A:Option Addr) (ys:List Int),j<=q/\q1= .int .i64 j/\Hid (Rn l w wr p gR gM gW k q j A n cap vs ys)) (fun q1 _=>q-(intOf q1).toNat)
     case atStart=>exact⟨0,_,_,[],Nat.zero_le _,rfl,HRN⟩
     case round =>
      obtain⟨j,cap,A,ys,hj,rfl,hrn⟩:=hrel
      by_cases hjl:j<q
      ·have j0:(0:Int)<=(j:Int):=by omega
       have j1:(j:Int)<(q:Int):=by omega
       have hjW:j<(WW l k).length:=by have:=HQ.out;omega
       obtain⟨wd,hwd⟩:∃ x,x=(WW l k).getD j []:=⟨_,rfl⟩;have cx:wr.cell? ⟨gW,j,none⟩=some (.string (bs wd)):=by rw[hrn.out.2.2.2.2.2.2.2.cell j (by omega),hwd];exact jh hjW
       have HWD:=Qh hwd;have HWL:Hid (wd.length<=1048576):=by
        show _<=_
        rw[HWD.out]
        exact Nat.le_trans (bX (by simp) (eS hjW)) (Nat.le_trans (bX (by simp) (eS HK.out)) HL.out)
       clear hwd
       go_wp2_with fail
       refine(lY wd HWL.out wr (HT.out.below hrn.out.2.2.2.2.2.1 Ql) (HM.out.below hrn.out.2.2.2.2.2.1 Ql)).mono ?_;rintro e w3 ⟨v,ok,rfl,hrf,hb3⟩;have HRN3:=Qh (hrn.out.below hb3);have HRF:=Qh hrf;clear hb3 hrn hrf
       cases ok
       ·have zl:w.heap.size<w3.heap.size:=HRN3.out.2.1.lt;have z0:w3.cell? ⟨w.heap.size,0,none⟩=some (.int .i64 0):=HRN3.out.2.1.cell 0;have z1:w3.cell? ⟨w.heap.size,1,none⟩=some (.int .i64 0):=HRN3.out.2.1.cell 1;have z2:w3.cell? ⟨w.heap.size,2,none⟩=some (.slice none 0 0):=HRN3.out.2.1.cell 2;have y0:w3.frozen? ⟨w.heap.size,0,none⟩=false:=HRN3.out.2.1.frozen 0;have y1:w3.frozen? ⟨w.heap.size,1,none⟩=false:=HRN3.out.2.1.frozen 1;have y2:w3.frozen? ⟨w.heap.size,2,none⟩=false:=HRN3.out.2.1.frozen 2;have HBAD:=Qh (Ej HK.out (w:=wd) (by rw[HWD.out];exact eS hjW) HRF.out)
        go_wp2
        exact bodyPost_ret (v:= .tuple #[MV 0 0 none 0 0,.bool false]) (by simp[results,results84,go_sem,z0,z1,z2,y0,y1,y2,zl]) rfl (RMx.no HBAD.out (((HRN3.out.2.2.2.2.2.1.setCell Ql _).setCell Ql _).setCell Ql _))
       ·obtain⟨hv,hfx⟩:=HRF.out.num;have HV:=Qh hv;have HFX:=Qh hfx;clear hv hfx;have gl:gM<w3.heap.size:=HRN3.out.2.2.1.lt;have g0:w3.cell? ⟨gM,0,none⟩=some (.int .i64 (p:Int)):=HRN3.out.2.2.1.cell 0;have g1:w3.cell? ⟨gM,1,none⟩=some (.int .i64 (q:Int)):=HRN3.out.2.2.1.cell 1;have g2:w3.cell? ⟨gM,2,none⟩=some (.slice A (n+j) cap):=HRN3.out.2.2.1.cell 2;have h0:w3.frozen? ⟨gM,0,none⟩=false:=HRN3.out.2.2.1.frozen 0;have h1:w3.frozen? ⟨gM,1,none⟩=false:=HRN3.out.2.2.1.frozen 1;have h2:w3.frozen? ⟨gM,2,none⟩=false:=HRN3.out.2.2.1.frozen 2;have HNJ:Hid (n+j<=1000):=HN.out j hjl;have hsz:w.heap.size<=w3.heap.size:=HRN3.out.2.2.2.2.2.1.size;obtain⟨i0',hi,hz0,hz1,hz2⟩:=info_parts eU
        go_wp2_with (at_builtin;refine wpList_append_lies _ rfl _ _ 35 rfl w.heap.size 3 i0' (.int .i64 0) 1 8 underlying35 hi hz0 hz1 hz2 rfl (by decide) (.slice A (n+j) cap) (n+j) _ rfl (World.ownsRow.alloc HRN3.out.2.2.2.1 _) ⟨w3.heap.size,0,none⟩ 1 1 [.int .i64 v] rfl rfl ?c1 ?c2 ?c3 ?c4 ?c5 ?c6 (w3.heap.size+1) ?c7 ?_)
        case c1=>exact fk _ _ _
        case c2=>simp[Value.oneCell']
        case c3=>omega
        case c4=>have:=HNJ.out;unfold maxLen;omega
        case c5=>have:=HNJ.out;omega
        case c6=>simp;omega
        case c7=>simp
        intro g cap' w4 hown hgrow hat _;obtain⟨hbm,hnx⟩:=HRN3.out.push hjW HV.out (by rw[<-HWD.out];exact HFX.out) (by simpa using hown) hgrow hat
        have HNX:=Qh hnx;have k2:w4.frozen? ⟨gM,2,none⟩=false:=hbm.frozen 2;have k3:w4.cell? ⟨gM,2,none⟩=some (.slice A (n+j) cap):=hbm.cell 2;clear gl g0 g1 g2 h0 h1 h2;clear hown hgrow hat hbm hnx HRN3 hsz;go_wp2
        go_roundw
        case rel=>exact⟨j+1,cap',_,_,by omega,by go_num,HNX⟩
        case measure=>simp[intOf];omega
      ·obtain rfl:j=q:=by omega
       have HRO:=Qh (hrn.out.outer HK.out HQ.out Q5.out);clear hrn;go_wp2
       go_roundw
       case rel=>exact⟨1,j,n+j,cap,A,_,by omega,by go_num,by have e:=HK00.out;subst e;exact HRO⟩
       case measure=>simp[intOf];omega
   ·have hkI:(0:Int)<(k:Int):=by omega
    have hkb:((k:Int) == 0)=false:=by simp;omega
    have gl:gM<w2.heap.size:=HR2.out.2.2.1.lt;have g0:w2.cell? ⟨gM,0,none⟩=some (.int .i64 (p:Int)):=HR2.out.2.2.1.cell 0;have g1:w2.cell? ⟨gM,1,none⟩=some (.int .i64 (C:Int)):=HR2.out.2.2.1.cell 1;have g2:w2.cell? ⟨gM,2,none⟩=some (.slice A n cap):=HR2.out.2.2.1.cell 2;have h0:w2.frozen? ⟨gM,0,none⟩=false:=HR2.out.2.2.1.frozen 0;have h1:w2.frozen? ⟨gM,1,none⟩=false:=HR2.out.2.2.1.frozen 1;have h2:w2.frozen? ⟨gM,2,none⟩=false:=HR2.out.2.2.1.frozen 2
    by_cases hqc:q=C
    ·obtain rfl:C=q:=hqc.symm;have Q5:Hid (C<=5):=((HR2.out.1.1.2.2.1 (by omega)).2.1)
     have hqI:(C:Int)<=5:=by have:=Q5.out;omega
     have HRN:Hid (Rn l w w2 p gR gM gW k C 0 A n cap vs []):=HR2.out.inner HVW.out;have HN:Hid (∀ j,j<C->n+j<=1000):=fun j hj=>by
      have h:=HR2.out.1;have h2:=h.1.1;have h3:k*C<=5*5:=Nat.mul_le_mul (by omega) Q5.out
      have h4:=Q5.out
      omega
     go_wp2_with fail
     clear HR2 HVW gl g0 g1 g2 h0 h1 h2
     go_loopw [49] (fun q1 wr=>∃ (j cap:Nat) (A:Option Addr) (ys:List Int),j<=C/\q1= .int .i64 j/\Hid (Rn l w wr p gR gM gW k C j A n cap vs ys)) (fun q1 _=>C-(intOf q1).toNat)
     case atStart=>exact⟨0,_,_,[],Nat.zero_le _,rfl,HRN⟩
     case round =>
      obtain⟨j,cap,A,ys,hj,rfl,hrn⟩:=hrel
      by_cases hjl:j<C
      ·have j0:(0:Int)<=(j:Int):=by omega
       have j1:(j:Int)<(C:Int):=by omega
       have hjW:j<(WW l k).length:=by have:=HQ.out;omega
       obtain⟨wd,hwd⟩:∃ x,x=(WW l k).getD j []:=⟨_,rfl⟩;have cx:wr.cell? ⟨gW,j,none⟩=some (.string (bs wd)):=by rw[hrn.out.2.2.2.2.2.2.2.cell j (by omega),hwd];exact jh hjW
       have HWD:=Qh hwd;have HWL:Hid (wd.length<=1048576):=by
        show _<=_
        rw[HWD.out]
        exact Nat.le_trans (bX (by simp) (eS hjW)) (Nat.le_trans (bX (by simp) (eS HK.out)) HL.out)
       clear hwd
       go_wp2_with fail
       refine(lY wd HWL.out wr (HT.out.below hrn.out.2.2.2.2.2.1 Ql) (HM.out.below hrn.out.2.2.2.2.2.1 Ql)).mono ?_;rintro e w3 ⟨v,ok,rfl,hrf,hb3⟩;have HRN3:=Qh (hrn.out.below hb3);have HRF:=Qh hrf;clear hb3 hrn hrf
       cases ok
       ·have zl:w.heap.size<w3.heap.size:=HRN3.out.2.1.lt;have z0:w3.cell? ⟨w.heap.size,0,none⟩=some (.int .i64 0):=HRN3.out.2.1.cell 0;have z1:w3.cell? ⟨w.heap.size,1,none⟩=some (.int .i64 0):=HRN3.out.2.1.cell 1;have z2:w3.cell? ⟨w.heap.size,2,none⟩=some (.slice none 0 0):=HRN3.out.2.1.cell 2;have y0:w3.frozen? ⟨w.heap.size,0,none⟩=false:=HRN3.out.2.1.frozen 0;have y1:w3.frozen? ⟨w.heap.size,1,none⟩=false:=HRN3.out.2.1.frozen 1;have y2:w3.frozen? ⟨w.heap.size,2,none⟩=false:=HRN3.out.2.1.frozen 2;have HBAD:=Qh (Ej HK.out (w:=wd) (by rw[HWD.out];exact eS hjW) HRF.out)
        go_wp2
        exact bodyPost_ret (v:= .tuple #[MV 0 0 none 0 0,.bool false]) (by simp[results,results84,go_sem,z0,z1,z2,y0,y1,y2,zl]) rfl (RMx.no HBAD.out (((HRN3.out.2.2.2.2.2.1.setCell Ql _).setCell Ql _).setCell Ql _))
       ·obtain⟨hv,hfx⟩:=HRF.out.num;have HV:=Qh hv;have HFX:=Qh hfx;clear hv hfx;have gl:gM<w3.heap.size:=HRN3.out.2.2.1.lt;have g0:w3.cell? ⟨gM,0,none⟩=some (.int .i64 (p:Int)):=HRN3.out.2.2.1.cell 0;have g1:w3.cell? ⟨gM,1,none⟩=some (.int .i64 (C:Int)):=HRN3.out.2.2.1.cell 1;have g2:w3.cell? ⟨gM,2,none⟩=some (.slice A (n+j) cap):=HRN3.out.2.2.1.cell 2;have h0:w3.frozen? ⟨gM,0,none⟩=false:=HRN3.out.2.2.1.frozen 0;have h1:w3.frozen? ⟨gM,1,none⟩=false:=HRN3.out.2.2.1.frozen 1;have h2:w3.frozen? ⟨gM,2,none⟩=false:=HRN3.out.2.2.1.frozen 2;have HNJ:Hid (n+j<=1000):=HN.out j hjl;have hsz:w.heap.size<=w3.heap.size:=HRN3.out.2.2.2.2.2.1.size;obtain⟨i0',hi,hz0,hz1,hz2⟩:=info_parts eU
        go_wp2_with (at_builtin;refine wpList_append_lies _ rfl _ _ 35 rfl w.heap.size 3 i0' (.int .i64 0) 1 8 underlying35 hi hz0 hz1 hz2 rfl (by decide) (.slice A (n+j) cap) (n+j) _ rfl (World.ownsRow.alloc HRN3.out.2.2.2.1 _) ⟨w3.heap.size,0,none⟩ 1 1 [.int .i64 v] rfl rfl ?c1 ?c2 ?c3 ?c4 ?c5 ?c6 (w3.heap.size+1) ?c7 ?_)
        case c1=>exact fk _ _ _
        case c2=>simp[Value.oneCell']
        case c3=>omega
        case c4=>have:=HNJ.out;unfold maxLen;omega
        case c5=>have:=HNJ.out;omega
        case c6=>simp;omega
        case c7=>simp
        intro g cap' w4 hown hgrow hat _;obtain⟨hbm,hnx⟩:=HRN3.out.push hjW HV.out (by rw[<-HWD.out];exact HFX.out) (by simpa using hown) hgrow hat
        have HNX:=Qh hnx;have k2:w4.frozen? ⟨gM,2,none⟩=false:=hbm.frozen 2;have k3:w4.cell? ⟨gM,2,none⟩=some (.slice A (n+j) cap):=hbm.cell 2;clear gl g0 g1 g2 h0 h1 h2;clear hown hgrow hat hbm hnx HRN3 hsz;go_wp2
        go_roundw
        case rel=>exact⟨j+1,cap',_,_,by omega,by go_num,HNX⟩
        case measure=>simp[intOf];omega
      ·obtain rfl:j=C:=by omega
       have HRO:=Qh (hrn.out.outer HK.out HQ.out Q5.out);clear hrn;go_wp2
       go_roundw
       case rel=>exact⟨k+1,j,n+j,cap,A,_,by omega,by go_num,HRO⟩
       case measure=>simp[intOf];omega
    ·have hqb:((q:Int) == (C:Int))=false:=by simp;omega
     have zl:w.heap.size<w2.heap.size:=HR2.out.2.1.lt;have z0:w2.cell? ⟨w.heap.size,0,none⟩=some (.int .i64 0):=HR2.out.2.1.cell 0;have z1:w2.cell? ⟨w.heap.size,1,none⟩=some (.int .i64 0):=HR2.out.2.1.cell 1;have z2:w2.cell? ⟨w.heap.size,2,none⟩=some (.slice none 0 0):=HR2.out.2.1.cell 2;have y0:w2.frozen? ⟨w.heap.size,0,none⟩=false:=HR2.out.2.1.frozen 0;have y1:w2.frozen? ⟨w.heap.size,1,none⟩=false:=HR2.out.2.1.frozen 1;have y2:w2.frozen? ⟨w.heap.size,2,none⟩=false:=HR2.out.2.1.frozen 2;have HBAD:=Qh (vE HK.out (by omega) HR2.out.1.1 (by show (WW l k).length≠C;rw[HQ.out];exact hqc))
     go_wp2
     exact bodyPost_ret (v:= .tuple #[MV 0 0 none 0 0,.bool false]) (by simp[results,results84,go_sem,z0,z1,z2,y0,y1,y2,zl,neM,neM2]) rfl (RMx.no HBAD.out (((HR2.out.2.2.2.2.2.1.setCell Ql _).setCell Ql _).setCell Ql _))
  ·obtain rfl:k=p:=by omega
   have zl:w.heap.size<wo.heap.size:=hro.out.2.1.lt;have z0:wo.cell? ⟨w.heap.size,0,none⟩=some (.int .i64 0):=hro.out.2.1.cell 0;have z1:wo.cell? ⟨w.heap.size,1,none⟩=some (.int .i64 0):=hro.out.2.1.cell 1;have z2:wo.cell? ⟨w.heap.size,2,none⟩=some (.slice none 0 0):=hro.out.2.1.cell 2;have y0:wo.frozen? ⟨w.heap.size,0,none⟩=false:=hro.out.2.1.frozen 0;have y1:wo.frozen? ⟨w.heap.size,1,none⟩=false:=hro.out.2.1.frozen 1;have y2:wo.frozen? ⟨w.heap.size,2,none⟩=false:=hro.out.2.1.frozen 2;have gl:gM<wo.heap.size:=hro.out.2.2.1.lt;have g0:wo.cell? ⟨gM,0,none⟩=some (.int .i64 (k:Int)):=hro.out.2.2.1.cell 0;have g1:wo.cell? ⟨gM,1,none⟩=some (.int .i64 (C:Int)):=hro.out.2.2.1.cell 1;have g2:wo.cell? ⟨gM,2,none⟩=some (.slice A n cap):=hro.out.2.2.1.cell 2;have h0:wo.frozen? ⟨gM,0,none⟩=false:=hro.out.2.2.1.frozen 0;have h1:wo.frozen? ⟨gM,1,none⟩=false:=hro.out.2.2.1.frozen 1;have h2:wo.frozen? ⟨gM,2,none⟩=false:=hro.out.2.2.1.frozen 2;have HG:Hid (RMp l ⟨(k:Int),(C:Int),vs⟩ true):=by
    have h:=hro.out.1.1;have e:=HP.out;have h2:=vU (l:=l) (C:=C) (vs:=vs) (by rw[<-e];exact h) (by rw[<-e];omega)
    rw[<-e] at h2
    exact h2
   have HFIN:Hid (∀ W:World,Below wo.heap.size wo W->True):=fun _ _=>trivial
   have HNL:=Qh hro.out.1.2;have neM:¬w.heap.size=gM:=by omega
   have neM2:¬gM=w.heap.size:=by omega
   have hos:=hro.out.2.2.2.1;have hbz:=hro.out.2.1;have HOS2:=Qh (((hos.dk hbz (by decide) (.int .i64 (k:Int)) (i:=0)).dk (hbz.dc 0 _) (by decide) (.int .i64 (C:Int)) (i:=1)).dk ((hbz.dc 0 _).dc 1 _) (by decide) (.slice A n cap) (i:=2))
   clear hos hbz;go_wp2
   exact bodyPost_ret (v:= .tuple #[MV (k:Int) (C:Int) A n cap,.bool true]) (by simp[results,results84,go_sem,z0,z1,z2,y0,y1,y2,zl,g0,g1,g2,neM,neM2]) rfl ⟨⟨(k:Int),(C:Int),vs⟩,true,A,cap,by dsimp only;rw[HNL.out],by dsimp only;rw[HNL.out];exact HOS2.out,HG.out,(((hro.out.2.2.2.2.2.1.setCell Ql _).setCell Ql _).setCell Ql _)⟩
section
attribute [local go_sem] af ah ae
def RdA (ps:List (List UInt8)) (ms:List Mx):Prop:=ps.length=ms.length/\∀ (i:Nat) p m,ps[i]?=some p->ms[i]?=some m->mvB m=true/\mt m=p
theorem RdA.one {ps:List (List UInt8)} {a b:List Mx} (h:RdA ps a) (k:RdA ps b):a=b:=by
 apply List.ext_getElem?
 intro i
 by_cases hi:i<ps.length
 ·obtain⟨p,hp,_⟩:=aH hi;obtain⟨x,hx,_⟩:=aH (xs:=a) (j:=i) (by rw[<-h.1];exact hi)
  obtain⟨y,hy,_⟩:=aH (xs:=b) (j:=i) (by rw[<-k.1];exact hi)
  obtain⟨v1,e1⟩:=h.2 i p x hp hx;obtain⟨v2,e2⟩:=k.2 i p y hp hy;rw[hx,hy,(RMp.one (l:=p) (.inl ⟨rfl,v1,e1⟩) (.inl ⟨rfl,v2,e2⟩)).1]
 ·rw[List.getElem?_eq_none (by rw[<-h.1];omega),List.getElem?_eq_none (by rw[<-k.1];omega)]
theorem RdA.nil:RdA [] []:=⟨rfl,fun i p m h=>by simp at h⟩
theorem RdA.snoc {ps:List (List UInt8)} {ms:List Mx} {j:Nat} {p:List UInt8} {m:Mx} (h:RdA (ps.take j) ms) (hp:ps[j]?=some p) (hm:mvB m=true) (ht:mt m=p):RdA (ps.take (j+1)) (ms++[m]):=by
 have hj:=(List.getElem?_eq_some_iff.1 hp).1;have hl:ms.length=j:=by rw[<-h.1,List.length_take,Nat.min_eq_left (Nat.le_of_lt hj)]
 rw[aW hp];refine⟨by simp[h.1],fun i q x hq hx=>?_⟩
 by_cases e:i<j
 ·rw[List.getElem?_append_left (by rw[List.length_take,Nat.min_eq_left (Nat.le_of_lt hj)];exact e)] at hq
  rw[List.getElem?_append_left (by rw[hl];exact e)] at hx
  exact h.2 i q x hq hx
 ·rw[List.getElem?_append_right (by rw[hl];omega),hl] at hx
  rw[List.getElem?_append_right (by rw[List.length_take,Nat.min_eq_left (Nat.le_of_lt hj)];omega),List.length_take,Nat.min_eq_left (Nat.le_of_lt hj)] at hq
  have hi:i-j=0:=by
   rcases Nat.eq_zero_or_pos (i-j) with h0|h0
   ·exact h0
   ·rw[List.getElem?_eq_none (by simp;omega)] at hx;cases hx
  rw[hi] at hx hq;injection hx with hx;injection hq with hq;subst hx;subst hq
  exact⟨hm,ht⟩
theorem RdA.no {ps:List (List UInt8)} {j:Nat} {p:List UInt8} (hp:ps[j]?=some p) (h:∀ m,mvB m=true->mt m≠p):∀ ms,¬RdA ps ms:=fun ms hr=>by
 obtain⟨m,hm,_⟩:=aH (xs:=ms) (j:=j) (by rw[<-hr.1];exact(List.getElem?_eq_some_iff.1 hp).1)
 obtain⟨v,e⟩:=hr.2 j p m hp hm
 exact h m v e
theorem RdA.mv {ps:List (List UInt8)} {ms:List Mx} (h:RdA ps ms):∀ m,m∈ms->mvB m=true:=fun m hm=>by
 obtain⟨i,hi,rfl⟩:=List.mem_iff_getElem.1 hm;obtain⟨p,hp,_⟩:=aH (xs:=ps) (j:=i) (by rw[h.1];exact hi)
 exact(h.2 i p _ hp (List.getElem?_eq_getElem hi)).1
def ZMa:Array Value:=#[.int .i64 0,.int .i64 0,.slice none 0 0]
theorem CH (n:Nat) (hn:n<=1048576) (w:World):(Instr.makeSlice 69 (.int .i64 (n:Int)) (.int .i64 (n:Int))).run prog w= .ok (.slice (some ⟨w.heap.size,0,none⟩) n n) (w.alloc (.cells (madeCells ZMa (n*ZMa.size)) 37)):=by
 obtain⟨i,hi,hz,h1,h8⟩:=info_parts rI;have h:=run_make (P:=prog) w 69 37 i _ underlying69 hi hz .i64 .i64 (n:Int) (n:Int) (by omega) (Int.le_refl _) (by rw[h8];omega) (by omega)
 rw[h,h1];simp only[Int.toNat_natCast]
 rfl
abbrev eP:List UInt8:=[32,124,32]
def dm (l:List UInt8):List (List UInt8):=Lib.split l eP
def RdR (l:List UInt8) (many:Nat) (w:World) (e:Ending) (w':World):Prop :=
 (∃ ms A c F,RdA (dm l) ms/\ms.length=many/\e= .returned (.tuple #[.slice A many c,.bool true])/\RI mxE w' A many c ms F/\Fr w' w.heap.size F/\Below w.heap.size w w') \/
 ((∀ ms,RdA (dm l) ms->ms.length≠many)/\e= .returned (.tuple #[.slice none 0 0,.bool false])/\Below w.heap.size w w')
theorem yz {w:World} {T:TypeId} {s base n c gj i:Nat} {pre b:List Value} {u0 u1 u2:Value} (h:VO w base T s (some ⟨gj,0,none⟩) n c (pre++(u0::u1::u2::b))) (hj:i=pre.length) (v0 v1 v2:Value) :
  VO (((w.setCell ⟨gj,i,none⟩ v0).setCell ⟨gj,i+1,none⟩ v1).setCell ⟨gj,i+2,none⟩ v2) base T s (some ⟨gj,0,none⟩) n c (pre++(v0::v1::v2::b)):=by
 have h0:=gp (a:=[]) (u:=u0) h (j:=i) (by simp[hj]) v0
 have h1:=gp (a:=[v0]) (u:=u1) (b:=u2::b) (by simpa using h0) (j:=i+1) (by simp[hj]) v1
 have h2:=gp (a:=[v0,v1]) (u:=u2) (b:=b) (by simpa using h1) (j:=i+2) (by simp[hj]) v2
 simpa using h2
theorem FC.alloc {α:Type} {E:Elt α} {w:World} {base n c:Nat} {T:TypeId} {A:Option Addr} {css:List (List Value)} {rest:List Value} {xs:List α} {F:List Nat} (h:FC E w base T A n c css rest xs F) (o:Obj):FC E (w.alloc o) base T A n c css rest xs F :=
 ⟨h.1.alloc o,h.2.1.au fun g hg=>Below.heap_alloc w o g (h.2.1.lt g hg),h.2.2.1.au fun g hg=>Below.heap_alloc w o g (h.2.1.lt g hg),h.2.2.2⟩
theorem mE (w:World):Calls prog 37 #[.string (bs []),.int .i64 0] w fun e w'=>e= .returned (.tuple #[.slice none 0 0,.bool true])/\Below w.heap.size w w':=by
 unfold bs
 go_enter func37,ntmps37
 go_wp2
 go_ret2
 exact⟨rfl,Below.refl _ _⟩
theorem nF (l:List UInt8) (hl:l.length<=1048576) (many:Nat) (h1:1<=many) (h3:many<=3) (w:World) (ht:Tab w) (hm:iD w):Calls prog 37 #[.string (bs l),.int .i64 (many:Int)] w (RdR l many w):=by
 have HT:=Qh ht;have HM:=Qh hm;have HL:=Qh hl;have n0:((many:Int) == 0)=false:=by simp;omega
 have n0':¬(many:Int)=0:=by omega
 clear ht hm hl
 go_enter func37,ntmps37
 go_wp2_with fail
 refine(pU l [32,124,32] (by simp) (Nat.le_trans HL.out (by omega)) w HM.out).mono ?_
 rintro e w1 ⟨rfl,hv,hb⟩;obtain⟨p,hp⟩:∃ p,p=(dm l).length:=⟨_,rfl⟩;have hp2:p=(Lib.split l [32,124,32]).length:=hp;rw[<-hp2] at hv ⊢;clear hp2;obtain⟨gR,hgR⟩:∃ g,g=w.heap.size:=⟨_,rfl⟩;rw[<-hgR] at hv ⊢;have HV:Hid (VO w1 gR 9 1 (some ⟨gR,0,none⟩) p p (strs (dm l))):=hv;have HP:=Qh hp;have HB:=Qh hb;have HGR:=Qh hgR;clear hv hp hb hgR
 by_cases hpm:p=many
 ·subst hpm;have b0:((p:Int) != (p:Int))=false:=by simp
  have hmk:=fun W:World=>CH p (by omega) W
  obtain⟨OB,hO⟩:∃ OB,OB=(Obj.cells (madeCells ZMa (p*ZMa.size)) 37):=⟨_,rfl⟩;rw[<-hO] at hmk;have H0:Hid (FC mxE (w1.alloc OB) w1.heap.size 37 (some ⟨w1.heap.size,0,none⟩) p p [] (List.replicate (p-0) ZMa.toList).flatten [] []):=by
   rw[hO]
   exact⟨VO.made w1 _ ZMa (by decide) p (by unfold maxLen;omega),rfl,Fr.nil _ _,fun _ _ h=>by cases h⟩
  have B0:Hid (Below w1.heap.size w1 (w1.alloc OB)):=Qb.alloc Ql _;clear hO;go_wp2
  go_loopw [26] (fun i wr=>∃ (j:Nat) (ms:List Mx) (css:List (List Value)) (F:List Nat),j<=p/\i= .int .i64 j/\Hid (RdA ((dm l).take j) ms)/\Hid (FC mxE wr w1.heap.size 37 (some ⟨w1.heap.size,0,none⟩) p p css (List.replicate (p-j) ZMa.toList).flatten ms F)/\Hid (Below w1.heap.size w1 wr)) (fun i _=>p-(intOf i).toNat)
  case atStart=>exact⟨0,[],[],[],Nat.zero_le _,rfl,RdA.nil,H0,B0⟩
  case round =>
  clear H0 B0 hmk;obtain⟨j,ms,css,F,hj,rfl,hra,hfc,hob⟩:=hrel
  by_cases hlt:j<p
  ·have k0:(0:Int)<=(j:Int):=by omega
   have k1:(j:Int)<(p:Int):=by omega
   have HK:Hid (j<(dm l).length):=by rw[<-HP.out];exact hlt
   obtain⟨pk,hpk⟩:∃ x,x=(dm l).getD j []:=⟨_,rfl⟩;have zR:gR<w1.heap.size:=(HV.out.aj _ rfl).2;have cx:wr.cell? ⟨gR,j,none⟩=some (.string (bs pk)):=(hob.out.cell (p:=⟨gR,j,none⟩) zR).trans (by rw[HV.out.cell j (by omega),hpk];exact jh HK.out)
   have hpj:(dm l)[j]?=some pk:=by rw[hpk,List.getD_eq_getElem?_getD,List.getElem?_eq_getElem HK.out];rfl
   have HPJ:=Qh hpj;have HPL:Hid (pk.length<=1048576):=by
    show _<=_
    rw[hpk]
    exact Nat.le_trans (bX (by simp) (eS HK.out)) HL.out
   have HWR:Hid (Below w.heap.size w wr):=HB.out.trans (hob.out.mono HB.out.size);have zr:=Nat.lt_of_lt_of_le zR hob.out.size;clear hpk hpj
   go_wp2_with fail
   refine(qg pk HPL.out wr (HT.out.below HWR.out Ql) (HM.out.below HWR.out Ql)).mono ?_;rintro e w5 ⟨m,ok,A,c,rfl,hos,hrm,hb5⟩;rcases hrm with⟨rfl,hmv,hmt⟩|⟨rfl,-,hno⟩
   ·have hF:=hfc.out;have hrep:(List.replicate (p-j) ZMa.toList).flatten=[.int .i64 0,.int .i64 0,.slice none 0 0]++(List.replicate (p-(j+1)) ZMa.toList).flatten:=by
     rw[show p-j=(p-(j+1))+1 by omega,List.replicate_succ,List.flatten_cons];rfl
    rw[hrep] at hF;have hbu:=hb5;have hos5:=hos;have hpl:css.flatten.length=j*3:=by
     rw[dS hF.2.1,<-hra.out.1,List.length_take,Nat.min_eq_left (Nat.le_of_lt HK.out)]
     rfl
    have hv5:VO w5 w1.heap.size 37 3 (some ⟨w1.heap.size,0,none⟩) p p (css.flatten++([] ++ .int .i64 0 :: .int .i64 0 :: .slice none 0 0::(List.replicate (p-(j+1)) ZMa.toList).flatten)):=hF.1.below hb5;have e0:w5.cell? ⟨w1.heap.size,j*3,none⟩=some (.int .i64 0):=eF (a:=[]) hv5 (by rw[hpl];rfl)
    have e1:w5.cell? ⟨w1.heap.size,j*3+1,none⟩=some (.int .i64 0):=eF (a:=[.int .i64 0]) (by simpa using hv5) (by rw[hpl];rfl)
    have e2:w5.cell? ⟨w1.heap.size,j*3+2,none⟩=some (.slice none 0 0):=eF (a:=[.int .i64 0,.int .i64 0]) (by simpa using hv5) (by rw[hpl];rfl)
    have f0:=hv5.frozen (j*3);have f1:=hv5.frozen (j*3+1);have f2:=hv5.frozen (j*3+2);have zg:w1.heap.size<w5.heap.size:=(hv5.aj _ rfl).2;have z5:w1.heap.size<wr.heap.size:=(hF.1.aj _ rfl).2;have zw:wr.heap.size<=w5.heap.size:=hb5.size;obtain⟨uZ,hZ⟩:∃ u,u=((w5.setCell ⟨w1.heap.size,j*3,none⟩ (.int .i64 m.r)).setCell ⟨w1.heap.size,j*3+1,none⟩ (.int .i64 m.c)).setCell ⟨w1.heap.size,j*3+2,none⟩ (.slice A m.v.length c):=⟨_,rfl⟩;have V6:VO uZ w1.heap.size 37 3 (some ⟨w1.heap.size,0,none⟩) p p (css.flatten++([.int .i64 m.r,.int .i64 m.c,.slice A m.v.length c]++(List.replicate (p-(j+1)) ZMa.toList).flatten)):=by rw[hZ];exact yz (by simpa using hv5) hpl.symm _ _ _
    have On6:aZ w1.heap.size w5 uZ:=by rw[hZ];exact(aZ.refl _ _).s1.s1.s1
    have kg1:∀ g',g'∈fpI A m.v.length->uZ.heap[g']?=w5.heap[g']?:=fun g' hg'=>On6.block g' (hos5.aj _ (bz hg').2).2 (fun e=>by
     have e':w1.heap.size=g':=by first|(injection e with e1;exact e1)|(injection e with e1;exact e1.symm)
     have:=(hos5.aj _ (bz hg').2).1;omega)
    have hQ:mxE.P uZ [.int .i64 m.r,.int .i64 m.c,.slice A m.v.length c] m (fpI A m.v.length):=mxE.au _ _ _ _ _ ⟨A,c,rfl,MF.aB hos5⟩ kg1;have hFR:Fr uZ wr.heap.size (fpI A m.v.length):=Fr.au (ek hos5) kg1;have hst:=FC.step (E:=mxE) (css:=css) (A:=some ⟨w1.heap.size,0,none⟩) V6 hF.2.1 hF.2.2.1 hF.2.2.2 (fun g' hg'=>(On6.block g' (Nat.lt_of_lt_of_le (hF.2.1.lt g' hg') hbu.size) (fun e=>hF.2.2.2 g' (by first|exact e|exact e.symm) hg')).trans (hbu.block g' (hF.2.1.lt g' hg'))) hQ (hFR.mono (Nat.le_of_lt z5))
     (fun g' hg'=>⟨fun h=>by have:=hF.2.1.lt g' h;have:=(hFR.2 g' hg').1;omega,fun h=>by have:=(hFR.2 g' hg').1;have e:w1.heap.size=g':=(by simpa [blk] using h);omega⟩)
    have HST:=Qh hst;have HRA:=Qh (hra.out.snoc HPJ.out hmv hmt);have HOB:Hid (Below w1.heap.size w1 uZ):=by
     rw[hZ]
     exact(((hob.out.trans (hbu.mono hob.out.size)).setCell Ql _).setCell Ql _).setCell Ql _
    have HZ:=Qh hZ;clear hra hfc hos hmv hmt hb5 hF hrep hbu hos5 hpl hv5 V6 On6 kg1 hQ hFR hst hZ hob cx;go_wp2;rw[<-HZ.out]
    go_roundw
    case rel=>exact⟨j+1,ms++[m],_,_,by omega,by go_num,HRA,HST.out.alloc _,HOB.out.alloc (by have:=HOB.out.size;omega) _⟩
    case measure=>simp[intOf];omega
   ·have hN:∀ ms,RdA (dm l) ms->ms.length≠p:=fun ms h=>absurd h (RdA.no HPJ.out hno ms)
    have HO5:Below w.heap.size w w5:=HWR.out.trans (hb5.mono HWR.out.size);have HN:=Qh hN;clear hra hfc hos hno hb5 hob hN;go_wp2
    go_ret2
    exact .inr ⟨HN.out,rfl,HO5.alloc HO5.size _⟩
  ·obtain rfl:j=p:=by omega
   have hF:=hfc.out;rw[Nat.sub_self,List.replicate_zero,List.flatten_nil] at hF;have hr:=hra.out;rw[List.take_of_length_le (by rw[HP.out];exact Nat.le_refl _)] at hr
   have hml:ms.length=j:=by rw[<-hr.1,HP.out]
   obtain⟨F2,hr2,hf2⟩:=(FC.ox hF hml).ri;have HR2:=Qh hr2;have HF2:=Qh (hf2.mono HB.out.size);have HRA:=Qh hr;have HML:=Qh hml;have HO5:Below w.heap.size w wr:=HB.out.trans (hob.out.mono HB.out.size);clear hF hr hml hr2 hf2 hfc hra hob;go_wp2
   go_ret2
   exact .inl ⟨ms,some ⟨w1.heap.size,0,none⟩,j,F2,HRA.out,HML.out,rfl,HR2.out,HF2.out,HO5⟩
 ·have b0:((p:Int) != (many:Int))=true:=by simp;omega
  have b1:¬(p:Int)=(many:Int):=by omega
  have hN:∀ ms,RdA (dm l) ms->ms.length≠many:=fun ms h e=>hpm (by rw[HP.out,h.1,e])
  have HN:=Qh hN;clear hN;go_wp2
  go_ret2
  exact .inr ⟨HN.out,rfl,HB.out⟩
end
section
attribute [local go_sem] af ah ae
def qY (base:Nat) (A0:Option Addr) (F0:List Nat) (res:Option ((List SL×Int)×List UInt8)) (w:World) (e:Ending) (w':World):Prop:=(match res with
 | none=>e= .returned (.tuple #[.agg #[.slice none 0 0,.int .i64 0],.string (bs []),.bool false])
 | some r=>∃ A c css F,e= .returned (.tuple #[.agg #[.slice A r.1.1.length c,.int .i64 r.1.2],.string (bs r.2),.bool true])/\OX (kE smE) w' base 99 A r.1.1.length c css r.1.1 F)/\UpL (fun i=>blk A0=some i\/i∈F0) w w'
def dI (kd:Int) (ms:List Mx) (net:List SL) (s:Int):Option ((List SL×Int)×List UInt8):=if aL kd ms=true/\net.length<4 then some ((net++[(kd,(aP ms s).1)],(aP ms s).2),[111,107]) else none
theorem RI.one {α:Type} {E:Elt α} {w:World} {g:Nat} {T:TypeId} {cs:List Value} {x:α} {F:List Nat} (hb:Blk w g T cs.toArray) (hx:E.P w cs x F):RI E w (some ⟨g,0,none⟩) 1 1 [x] (g::F):=by
 refine⟨rfl,Nat.le_refl _,by unfold maxLen;omega,.inr ⟨g,0,[cs],F,rfl,hb.lt,rfl,?_,fun i c hi j hj=>?_⟩⟩
 ·have h:=dJ.push (E:=E) (w:=w) (css:=[]) (xs:=[]) (F:=[]) rfl hx
  simpa using h
 ·have hi0:i=0:=by
   rcases Nat.eq_zero_or_pos i with h|h
   ·exact h
   ·rw[List.getElem?_eq_none (by simp;omega)] at hi;cases hi
  subst hi0;injection hi with hi;subst hi;rw[Nat.zero_mul,Nat.zero_add,Nat.zero_add,hb.cell j]
  simp
theorem nE {kd s:Int} {net:List SL} {ms:List Mx} (hl:aL kd ms=false) (hs:sdB s=true) {base n c many c2 gk:Nat} {A B:Option Addr} {css:List (List Value)} {F FM:List Nat} (w:World) (hbw:base<=w.heap.size) (hn:n=net.length) (hmany:ms.length=many) (hox:OX (kE smE) w base 99 A n c css net F) (hms:RI mxE w B many c2 ms FM) (hmv:∀ m,m∈ms->mvB m=true) (hm3:many<=3) (hgk:Blk w gk 3 #[.int .i64 kd]) :
  Calls prog 123 #[.agg #[.slice A n c,.int .i64 s],.slice B many c2,.pointer (some ⟨gk,0,none⟩)] w (qY base A F (dI kd ms net s) w):=by
 subst hn hmany;have hm5:∀ m,m∈ms->mS m:=fun m hm=>by have:=(dy (hmv m hm)).2;unfold mS;omega
 have hm6:ms.length<=1048576:=by omega
 have hkc:=hgk.cell 0;have zgk:=hgk.lt;have HPA:Hid (dI kd ms net s=none):=by unfold Hid dI;rw[if_neg (by rw[hl];simp)]
 have HZ:=Qh (Hq.rs0 hox);have HBW:=Qh hbw;have HOX:=Qh hox;have HMS:=Qh hms;have HSD:=Qh hs;have HM5:=Qh hm5;have HM6:=Qh hm6;have HL:=Qh hl;clear hox hms hs hm5 hm6 hmv hl hgk hbw;refine zE ?_;intro u1 H;have hms1:=RI.below HMS.out H.O;replace H:=HZ.out.join H (by repeat constructor)
 refine zB (ny HL.out HM5.out HM6.out u1 (RI.one (E:=kE mxE) (cs:=[.int .i64 kd,.slice B ms.length c2]) (x:=(kd,ms)) (H.k 0) ⟨B,c2,rfl,hms1⟩)) ?_;clear H;intro w2 u2 H;refine zS_ ?_;clear H;intro u3 H
 exact(by obtain⟨h1,h2⟩:=Hq.rsX HOX.out HBW.out (((H.d 0).d 0).d 0);rw[show dI kd ms net s=_ from HPA.out];exact⟨rfl,h2⟩)
theorem mC {kd s:Int} {net:List SL} {ms:List Mx} (hl:aL kd ms=true) (h4:4<=net.length) (hs:sdB s=true) {base n c many c2 gk:Nat} {A B:Option Addr} {css:List (List Value)} {F FM:List Nat} (w:World) (hbw:base<=w.heap.size) (hn:n=net.length) (hmany:ms.length=many) (hox:OX (kE smE) w base 99 A n c css net F) (hms:RI mxE w B many c2 ms FM) (hmv:∀ m,m∈ms->mvB m=true) (hm3:many<=3) (hgk:Blk w gk 3 #[.int .i64 kd]) :
  Calls prog 123 #[.agg #[.slice A n c,.int .i64 s],.slice B many c2,.pointer (some ⟨gk,0,none⟩)] w (qY base A F (dI kd ms net s) w):=by
 subst hn hmany;have hm5:∀ m,m∈ms->mS m:=fun m hm=>by have:=(dy (hmv m hm)).2;unfold mS;omega
 have hm6:ms.length<=1048576:=by omega
 have hkc:=hgk.cell 0;have zgk:=hgk.lt;have HPA:Hid (dI kd ms net s=none):=by unfold Hid dI;rw[if_neg (by omega)]
 have hqs:sdB (aP ms s).2=true:=fE hs (lD hl);obtain⟨y2,hq⟩:∃ y,y=(aP ms s).2:=⟨_,rfl⟩;have HQ:Hid ((aP ms s).2=y2):=hq.symm;rw[<-hq] at hqs;have hq0:¬y2=0:=by have:=dH hqs;omega
 have hqb:(y2 == 0)=false:=by simpa using hq0
 clear hqs hq;have HZ:=Qh (Hq.rs0 hox);have HBW:=Qh hbw;have HOX:=Qh hox;have HMS:=Qh hms;have HSD:=Qh hs;have HM5:=Qh hm5;have HM6:=Qh hm6;have HL:=Qh hl;clear hox hms hs hm5 hm6 hmv hl hgk hbw;refine zE ?_;intro u1 H;have hms1:=RI.below HMS.out H.O;replace H:=HZ.out.join H (by repeat constructor)
 refine zG (DI HL.out HSD.out u1 (RI.one (E:=kE mxE) (cs:=[.int .i64 kd,.slice B ms.length c2]) (x:=(kd,ms)) (H.k 0) ⟨B,c2,rfl,hms1⟩)) ?_;rintro e w2 ⟨gj,A2,m2,css2,F2,rfl,hbj,hox2,hge,hb⟩;replace H:=H.add hb ((qB gj 99 [.int .i64 kd,.slice A2 ms.length m2]).and (qX smE (gj+1) 82 A2 ms.length m2 css2 (aP ms s).1 F2)) ⟨hbj,hox2⟩ (fun i hi=>by rcases hi with h|h|h;(have h:i=gj:=h;omega);(have:=(hox2.aj i h).1;omega);(have:=(hox2.2.2.2.1.2 i h).1;omega))
 replace H:=H.spl (fun i hi h=>by have e:i=gj:=hi;rcases h with h|h;(have:=(hox2.aj i h).1;omega);(have:=(hox2.2.2.2.1.2 i h).1;omega))
 clear hbj hox2 hge hb hms1;rw[HQ.out];have e4:(4:Int)<=(net.length:Int):=by omega
 refine zS_ ?_;clear H;intro u3 H
 exact(by obtain⟨h1,h2⟩:=Hq.rsX HOX.out HBW.out (((((H.d 0).d 0).d 0).d 0).d 0);rw[show dI kd ms net s=_ from HPA.out];exact⟨rfl,h2⟩)
theorem oT {kd s:Int} {net:List SL} {ms:List Mx} (hl:aL kd ms=true) (h4:net.length<4) (hs:sdB s=true) {base n c many c2 gk:Nat} {A B:Option Addr} {css:List (List Value)} {F FM:List Nat} (w:World) (hbw:base<=w.heap.size) (hn:n=net.length) (hmany:ms.length=many) (hox:OX (kE smE) w base 99 A n c css net F) (hms:RI mxE w B many c2 ms FM) (hmv:∀ m,m∈ms->mvB m=true) (hm3:many<=3) (hgk:Blk w gk 3 #[.int .i64 kd]) :
  Calls prog 123 #[.agg #[.slice A n c,.int .i64 s],.slice B many c2,.pointer (some ⟨gk,0,none⟩)] w (qY base A F (dI kd ms net s) w):=by
 subst hn hmany;have hm5:∀ m,m∈ms->mS m:=fun m hm=>by have:=(dy (hmv m hm)).2;unfold mS;omega
 have hm6:ms.length<=1048576:=by omega
 have hkc:=hgk.cell 0;have zgk:=hgk.lt;have hqs:sdB (aP ms s).2=true:=fE hs (lD hl);obtain⟨y2,hq⟩:∃ y,y=(aP ms s).2:=⟨_,rfl⟩;have HQ:Hid ((aP ms s).2=y2):=hq.symm;rw[<-hq] at hqs;have hq0:¬y2=0:=by have:=dH hqs;omega
 have hqb:(y2 == 0)=false:=by simpa using hq0
 have HPA:Hid (dI kd ms net s=some ((net++[(kd,(aP ms s).1)],y2),[111,107])):=by unfold Hid dI;rw[if_pos ⟨hl,h4⟩,hq]
 have hll:(net++[(kd,(aP ms s).1)]).length=net.length+1:=by simp
 clear hqs hq;have HZ:=Qh (Hq.rs0 hox);have HBW:=Qh hbw;have HOX:=Qh hox;have HMS:=Qh hms;have HSD:=Qh hs;have HM5:=Qh hm5;have HM6:=Qh hm6;have HL:=Qh hl;clear hox hms hs hm5 hm6 hmv hl hgk hbw;refine zE ?_;intro u1 H;have hms1:=RI.below HMS.out H.O;replace H:=HZ.out.join H (by repeat constructor)
 refine zG (DI HL.out HSD.out u1 (RI.one (E:=kE mxE) (cs:=[.int .i64 kd,.slice B ms.length c2]) (x:=(kd,ms)) (H.k 0) ⟨B,c2,rfl,hms1⟩)) ?_;rintro e w2 ⟨gj,A2,m2,css2,F2,rfl,hbj,hox2,hge,hb⟩;replace H:=H.add hb ((qB gj 99 [.int .i64 kd,.slice A2 ms.length m2]).and (qX smE (gj+1) 82 A2 ms.length m2 css2 (aP ms s).1 F2)) ⟨hbj,hox2⟩ (fun i hi=>by rcases hi with h|h|h;(have h:i=gj:=h;omega);(have:=(hox2.aj i h).1;omega);(have:=(hox2.2.2.2.1.2 i h).1;omega))
 replace H:=H.spl (fun i hi h=>by have e:i=gj:=hi;rcases h with h|h;(have:=(hox2.aj i h).1;omega);(have:=(hox2.2.2.2.1.2 i h).1;omega))
 clear hbj hox2 hge hb hms1;rw[HQ.out];have e4:¬(4:Int)<=(net.length:Int):=by omega
 replace e4:=Int.not_le.1 e4;refine zC ?_;intro C;intros
 go_wp2_with (at_builtin;refine zM ?_)
 clear H C;intro u3 H;obtain⟨F3,hri,hf,hF⟩:=OX.rf (H.x 1);have hx:(kE smE).P u3 [.int .i64 kd,.slice A2 ms.length m2] (kd,(aP ms s).1) F3:=⟨A2,m2,by rw[hri.1],by rw[hri.1];exact hri⟩
 replace H:=((H.r 1).r 5);refine zAx (an4 zY hx (hf.mono (Nat.zero_le _:(fI w).heap.size<=_)) hF) ?_;clear H hri hx hf hF;intro g1 k1 w31 H;refine zS_ ?_;clear H;intro u32 H
 exact(by obtain⟨h1,h2⟩:=Hq.rsX HOX.out HBW.out ((((H.d 1).d 1).d 1).d 1);rw[show dI kd ms net s=_ from HPA.out];exact⟨⟨some ⟨g1,0,none⟩,k1,_,_,by dsimp only;rw[hll];rfl,by dsimp only;rw[hll];exact h1⟩,h2⟩)
end
section
attribute [local go_sem] af ah ae
theorem jg {m:Mx} {s:Int} (hm:mvB m=true) (hs:sdB s=true):okS (cH m s).1=true/\(cH m s).1.1.r=m.r/\(cH m s).1.1.c=m.c/\sdB (cH m s).2=true:=by
 rw[lS hm hs];have h:=nO hm s;obtain⟨h1,h2,h3⟩:=kW h
 exact⟨aY (bU (aA hm).1 (aA hm).2) h1 h2.symm h3.symm,rfl,rfl,cS hs _⟩
theorem mg {net:List SL} (h:bu net=true):gG (kS smS) net:=by
 obtain⟨h1,h2⟩:=du h;refine⟨by omega,fun l hl=>⟨by have:=kU (h2 l hl);omega,fun p hp=>?_⟩⟩
 have:=fs (mW (h2 l hl) p hp)
 exact⟨by unfold mS;omega,by unfold mS;omega⟩
def ic (m:Mx) (net:List SL) (s:Int):Option ((List SL×Int)×List UInt8):=if (bE (bh net) (some (m.r,m.c))).isSome=true then some ((net,(fD net (cH m s)).2),mt (aq (fD net (cH m s)).1)) else none
theorem tm {net:List SL} (hok:bu net=true) {m:Mx} {s:Int} (hm:mvB m=true) (hs:sdB s=true) (hf:(bE (bh net) (some (m.r,m.c))).isSome=true):okS (fD net (cH m s)).1=true/\sdB (fD net (cH m s)).2=true:=by
 obtain⟨h1,h2,h3,h4⟩:=jg hm hs
 cases e:bE (bh net) (some (m.r,m.c)) with
 | none=>rw[e] at hf;cases hf
 | some rc =>
  rw[eL hok] at e;obtain⟨d1,_,_,d4⟩:=yi (du hok).2 (z:=cH m s) (rc:=(m.r,m.c)) ⟨h1,h2,h3,h4⟩ e
  exact⟨d1,d4⟩
def eu (m:Mx) (net:List SL) (s:Int):Option ((List SL×Int)×List UInt8):=if (bE (bh net) (some (m.r,m.c))).isSome=true then some ((net,s),nt [(ndN (bh net) (Nd.z,some (m.r,m.c))).1.a,(ndN (bh net) (Nd.z,some (m.r,m.c))).1.b,(ndN (bh net) (Nd.z,some (m.r,m.c))).1.c,(ndN (bh net) (Nd.z,some (m.r,m.c))).1.d]) else none
theorem mF {s:Int} {net:List SL} {m:Mx} (hok:bu net=true) (hmv:mvB m=true) (hs:sdB s=true) (hfit:(bE (bh net) (some (m.r,m.c))).isSome=false) {base n c c2:Nat} {A B:Option Addr} {css:List (List Value)} {F FM:List Nat} (w:World) (hbw:base<=w.heap.size) (hn:n=net.length) (hox:OX (kE smE) w base 99 A n c css net F) (hms:RI mxE w B 1 c2 [m] FM) :
  Calls prog 78 #[.agg #[.slice A n c,.int .i64 s],.slice B 1 c2] w (qY base A F (ic m net s) w):=by
 obtain⟨F2,hri,_⟩:=hox.ri;obtain⟨b,off,cs,F1,rfl,hbl,hc,_,P1,q1,rfl,hp1⟩:=hms.cells (i:=0) (x:=m) rfl 3 rfl;have a0:w.cell? ⟨b,off,none⟩=some (.int .i64 m.r):=by have:=hc 0 (by omega);simpa using this
 have a1:w.cell? ⟨b,off+1,none⟩=some (.int .i64 m.c):=by have:=hc 1 (by omega);simpa using this
 have a2:w.cell? ⟨b,off+2,none⟩=some (.slice P1 m.v.length q1):=by have:=hc 2 (by omega);simpa using this
 have hrm:=RM.mk (m:=m) hp1.1 hp1.2.1 hp1.2.2.1;have hr:=(aA hmv).1;have hcc:=(aA hmv).2;subst hn;obtain⟨hz1,hz2,hz3,hz4⟩:=jg hmv hs;obtain⟨z,hz⟩:∃ z,z=cH m s:=⟨_,rfl⟩;rw[<-hz] at hz1 hz2 hz3 hz4;have hfz:(bE (bh net) (some (z.1.1.r,z.1.1.c))).isSome=false:=by rw[hz2,hz3];exact hfit
 have hns:=mg hok;have hpa:ic m net s=none:=by unfold ic;rw[if_neg (by rw[hfit];simp)]
 have HOK:=Qh hok;have HMV:=Qh hmv;have HFIT:=Qh hfit;have HBW:=Qh hbw;have HOX:=Qh hox;have HRI:=Qh hri;have HRM:=Qh hrm;have HR:=Qh hr;have HCC:=Qh hcc;clear hok hmv hfit hbw hox hri hrm hr hcc;have HSD:=Qh hs;have HZ:=Qh hz;have HZ1:=Qh hz1;have HZ4:=Qh hz4;have HFZ:=Qh hfz;have HNS:=Qh hns;clear hs hz hz1 hz4 hfz hns;have HPA:=Qh hpa;clear hpa hc hp1 hz2 hz3 hms;refine zE ?_;intro u1 H;have zb:=Nat.lt_of_lt_of_le hbl H.m;have E:=H.el;refine zXF (tgF [w.heap.size,b] 9 7 (.cells #[.int .i64 0,.int .i64 0,.slice none 0 0,.int .i64 0,.int .i64 0,.slice none 0 0] 82)) ?_;clear H;intro S w2 hne H;refine zD (H.c 1) ?_;intro G;have r0:=H.row ((H.O.cell (p:=⟨b,off,none⟩) hbl).trans a0);have r1:=H.row ((H.O.cell (p:=⟨b,off+1,none⟩) hbl).trans a1);have r2:=H.row ((H.O.cell (p:=⟨b,off+2,none⟩) hbl).trans a2);intros;refine f_ (fun w3 (hb:Bw w2 w3)=>(show Calls prog 125 #[_,_] w3 (tI z.1 z.2 w3) from by rw[HZ.out];exact e8 HMV.out HSD.out w3 (RM.below HRM.out (H.b hb).O))) ?_;clear H
 rintro w3 K hK H e w4 ⟨X,Y,cx,cy,rfl,f1,f2,-,hb⟩;replace H:=H.ss hb f1 f2;clear f1 f2;refine fK ?_;clear hK K hb;refine yG ?_;clear H;intro w5 g5 hg5 H;refine yS ?_;clear H;intro w6 H;refine yN ?_;clear H G;intro u7 H;refine zB (nx HOK.out HNS.out HZ1.out HZ4.out HFZ.out u7 (HRI.out.below H.O) (H.rs 1)) ?_;clear H;intro w8 u8 H;refine zS_ ?_;clear H;intro u9 H
 exact(by rw[show ic m net s=none from HPA.out];exact⟨rfl,UpL.eW H.O⟩)
theorem nG {s:Int} {net:List SL} {m:Mx} (hok:bu net=true) (hmv:mvB m=true) (hs:sdB s=true) (hfit:(bE (bh net) (some (m.r,m.c))).isSome=true) {base n c c2:Nat} {A B:Option Addr} {css:List (List Value)} {F FM:List Nat} (w:World) (ht:Tab w) (hbw:base<=w.heap.size) (hn:n=net.length) (hox:OX (kE smE) w base 99 A n c css net F) (hms:RI mxE w B 1 c2 [m] FM) :
  Calls prog 78 #[.agg #[.slice A n c,.int .i64 s],.slice B 1 c2] w (qY base A F (ic m net s) w):=by
 obtain⟨F2,hri,_⟩:=hox.ri;obtain⟨b,off,cs,F1,rfl,hbl,hc,_,P1,q1,rfl,hp1⟩:=hms.cells (i:=0) (x:=m) rfl 3 rfl;have a0:w.cell? ⟨b,off,none⟩=some (.int .i64 m.r):=by have:=hc 0 (by omega);simpa using this
 have a1:w.cell? ⟨b,off+1,none⟩=some (.int .i64 m.c):=by have:=hc 1 (by omega);simpa using this
 have a2:w.cell? ⟨b,off+2,none⟩=some (.slice P1 m.v.length q1):=by have:=hc 2 (by omega);simpa using this
 have hrm:=RM.mk (m:=m) hp1.1 hp1.2.1 hp1.2.2.1;have hr:=(aA hmv).1;have hcc:=(aA hmv).2;subst hn;obtain⟨hz1,hz2,hz3,hz4⟩:=jg hmv hs;obtain⟨z,hz⟩:∃ z,z=cH m s:=⟨_,rfl⟩;rw[<-hz] at hz1 hz2 hz3 hz4;have hfz:(bE (bh net) (some (z.1.1.r,z.1.1.c))).isSome=true:=by rw[hz2,hz3];exact hfit
 have hns:=mg hok;have hpa:ic m net s=some ((net,(fD net z).2),mt (aq (fD net z).1)):=by unfold ic;rw[if_pos hfit,hz]
 obtain⟨hy1,hy2⟩:=tm hok hmv hs hfit;obtain⟨y,hy⟩:∃ y,y=fD net z:=⟨_,rfl⟩;rw[<-hz,<-hy] at hy1 hy2;rw[<-hy] at hpa;have hy':y=fD net (z.1,z.2):=hy;have hjl:(aq y.1).v.length<=1048576:=by have:=(dy (aN hy1).1).2;omega
 have hynz:¬y.2=0:=by have:=dH hy2;omega
 have hynb:(y.2 == 0)=false:=by simpa using hynz
 have HOK:=Qh hok;have HMV:=Qh hmv;have HFIT:=Qh hfit;have HBW:=Qh hbw;have HOX:=Qh hox;have HRI:=Qh hri;have HRM:=Qh hrm;have HR:=Qh hr;have HCC:=Qh hcc;clear hok hmv hfit hbw hox hri hrm hr hcc;have HSD:=Qh hs;have HZ:=Qh hz;have HZ1:=Qh hz1;have HZ4:=Qh hz4;have HFZ:=Qh hfz;have HNS:=Qh hns;clear hs hz hz1 hz4 hfz hns;have HPA:=Qh hpa;have HY:=Qh hy';have HY1:=Qh hy1;have HJL:=Qh hjl;have HT:=Qh ht;clear hpa hc hp1 hz2 hz3 hms hy hy' hy1 hy2 hjl ht;refine zE ?_;intro u1 H;have zb:=Nat.lt_of_lt_of_le hbl H.m;have E:=H.el;refine zXF (tgF [w.heap.size,b] 9 7 (.cells #[.int .i64 0,.int .i64 0,.slice none 0 0,.int .i64 0,.int .i64 0,.slice none 0 0] 82)) ?_;clear H;intro S w2 hne H;refine zD (H.c 1) ?_;intro G;have r0:=H.row ((H.O.cell (p:=⟨b,off,none⟩) hbl).trans a0);have r1:=H.row ((H.O.cell (p:=⟨b,off+1,none⟩) hbl).trans a1);have r2:=H.row ((H.O.cell (p:=⟨b,off+2,none⟩) hbl).trans a2);intros;refine f_ (fun w3 (hb:Bw w2 w3)=>(show Calls prog 125 #[_,_] w3 (tI z.1 z.2 w3) from by rw[HZ.out];exact e8 HMV.out HSD.out w3 (RM.below HRM.out (H.b hb).O))) ?_;clear H
 rintro w3 K hK H e w4 ⟨X,Y,cx,cy,rfl,f1,f2,-,hb⟩;replace H:=H.ss hb f1 f2;clear f1 f2;refine fK ?_;clear hK K hb;refine yG ?_;clear H;intro w5 g5 hg5 H;refine yS ?_;clear H;intro w6 H;refine yN ?_;clear H G;intro u7 H;refine zG ((show Calls prog 126 #[_,_,_] u7 (pM y.1 y.2 u7) from by rw[HY.out];exact oM HOK.out HNS.out HZ1.out HZ4.out HFZ.out u7 (HRI.out.below H.O) (H.rs 1))) ?_
 rintro e w8 ⟨PA,pa,PB,pb,C1,cm,ck,cv,rfl,h1,h2,h3,hb⟩;replace H:=H.so hb h1 h2 h3;clear h1 h2 h3 hb;refine zN ?_;clear H;intro u9 H;refine zX (tg [w8.heap.size,w.heap.size]) ?_;clear H;intro S w10 hne H;refine zD ((And.intro (H.c 0) (H.c 5))) ?_;intro G;refine yO (iJ HY1.out w10 (qS.rs (Ow.P1 (H.p 1)))) ?_;clear H;intro w11 J cJ H;refine yB (qe (aq y.1).r (aq y.1).c (aq y.1).v J _ cJ w11 (HT.out.below H.O Ql) (H.o 0).si HJL.out (H.o 0).dC.1 (H.o 0).dC.2) ?_;clear H;intro w12 H;refine yS ?_;clear H;intro w13 H;refine yN ?_;clear H G;intro u14 H;refine zS_ ?_;clear H;intro u15 H
 exact(by rw[show ic m net s=some _ from HPA.out];exact⟨⟨A,c,css,F,rfl,HOX.out.below H.O⟩,UpL.eW H.O⟩)
theorem sY {s:Int} {net:List SL} {m:Mx} (hok:bu net=true) (hmv:mvB m=true) (hfit:(bE (bh net) (some (m.r,m.c))).isSome=false) {base n c c2:Nat} {A B:Option Addr} {css:List (List Value)} {F FM:List Nat} (w:World) (hbw:base<=w.heap.size) (hn:n=net.length) (hox:OX (kE smE) w base 99 A n c css net F) (hms:RI mxE w B 1 c2 [m] FM) :
  Calls prog 79 #[.agg #[.slice A n c,.int .i64 s],.slice B 1 c2] w (qY base A F (eu m net s) w):=by
 obtain⟨F2,hri,_⟩:=hox.ri;obtain⟨b,off,cs,F1,rfl,hbl,hc,_,P1,q1,rfl,hp1⟩:=hms.cells (i:=0) (x:=m) rfl 3 rfl;have a0:w.cell? ⟨b,off,none⟩=some (.int .i64 m.r):=by have:=hc 0 (by omega);simpa using this
 have a1:w.cell? ⟨b,off+1,none⟩=some (.int .i64 m.c):=by have:=hc 1 (by omega);simpa using this
 have a2:w.cell? ⟨b,off+2,none⟩=some (.slice P1 m.v.length q1):=by have:=hc 2 (by omega);simpa using this
 have hrm:=RM.mk (m:=m) hp1.1 hp1.2.1 hp1.2.2.1;have hr:=(aA hmv).1;have hcc:=(aA hmv).2;subst hn;have hns:=mg hok;have hnv:=eN hok;have hpa:eu m net s=none:=by unfold eu;rw[if_neg (by rw[hfit];simp)]
 have HOK:=Qh hok;have HMV:=Qh hmv;have HFIT:=Qh hfit;have HBW:=Qh hbw;have HOX:=Qh hox;have HRI:=Qh hri;have HRM:=Qh hrm;have HR:=Qh hr;have HCC:=Qh hcc;clear hok hmv hfit hbw hox hri hrm hr hcc;have HNS:=Qh hns;have HNV:=Qh hnv;clear hns hnv;have HPA:=Qh hpa;clear hpa hc hp1 hms;refine zE ?_;intro u1 H;refine zG (FV _ _ _ net _ u1 (HRI.out.below H.O) HNS.out) ?_;rintro e w2 ⟨AJ,nj,cj,FJ,rfl,hrj,hfr,hb⟩;replace H:=H.rf hb hrj hfr;rw[HOK.out];obtain rfl:=hrj.len;clear hrj hfr hb;refine zN ?_;clear H;intro u3 H;have zb:=Nat.lt_of_lt_of_le hbl H.m;refine zX (tg [b]) ?_;clear H;intro S w4 hne H;have r0:=H.row ((H.O.cell (p:=⟨b,off,none⟩) hbl).trans a0);have r1:=H.row ((H.O.cell (p:=⟨b,off+1,none⟩) hbl).trans a1);have r2:=H.row ((H.O.cell (p:=⟨b,off+2,none⟩) hbl).trans a2);refine yN ?_;clear H;intro u5 H;refine zG ((show Calls prog 61 #[_,_,_] u5 (NSd false u5) from by rw[<-HFIT.out];exact eo HNV.out HR.out HCC.out u5 (H.f 0).1 dU)) ?_
 rintro e w6 ⟨x0,y0,rfl,hb⟩;replace H:=H.b hb;refine zS_ ?_;clear H;intro u7 H
 exact(by rw[show eu m net s=none from HPA.out];exact⟨rfl,UpL.eW H.O⟩)
theorem uP {s:Int} {net:List SL} {m:Mx} (hok:bu net=true) (hmv:mvB m=true) (hfit:(bE (bh net) (some (m.r,m.c))).isSome=true) {base n c c2:Nat} {A B:Option Addr} {css:List (List Value)} {F FM:List Nat} (w:World) (ht:Tab w) (hbw:base<=w.heap.size) (hn:n=net.length) (hox:OX (kE smE) w base 99 A n c css net F) (hms:RI mxE w B 1 c2 [m] FM) :
  Calls prog 79 #[.agg #[.slice A n c,.int .i64 s],.slice B 1 c2] w (qY base A F (eu m net s) w):=by
 obtain⟨F2,hri,_⟩:=hox.ri;obtain⟨b,off,cs,F1,rfl,hbl,hc,_,P1,q1,rfl,hp1⟩:=hms.cells (i:=0) (x:=m) rfl 3 rfl;have a0:w.cell? ⟨b,off,none⟩=some (.int .i64 m.r):=by have:=hc 0 (by omega);simpa using this
 have a1:w.cell? ⟨b,off+1,none⟩=some (.int .i64 m.c):=by have:=hc 1 (by omega);simpa using this
 have a2:w.cell? ⟨b,off+2,none⟩=some (.slice P1 m.v.length q1):=by have:=hc 2 (by omega);simpa using this
 have hrm:=RM.mk (m:=m) hp1.1 hp1.2.1 hp1.2.2.1;have hr:=(aA hmv).1;have hcc:=(aA hmv).2;subst hn;have hns:=mg hok;have hnv:=eN hok;obtain⟨N,hnd⟩:∃ N,N=(ndN (bh net) (Nd.z,some (m.r,m.c))).1:=⟨_,rfl⟩;have hpa:eu m net s=some ((net,s),nt [N.a,N.b,N.c,N.d]):=by unfold eu;rw[if_pos hfit,hnd]
 have HOK:=Qh hok;have HMV:=Qh hmv;have HFIT:=Qh hfit;have HBW:=Qh hbw;have HOX:=Qh hox;have HRI:=Qh hri;have HRM:=Qh hrm;have HR:=Qh hr;have HCC:=Qh hcc;clear hok hmv hfit hbw hox hri hrm hr hcc;have HNS:=Qh hns;have HNV:=Qh hnv;clear hns hnv;have HPA:=Qh hpa;have HND:=Qh hnd;have HT:=Qh ht;clear hpa hc hp1 hms hnd ht;refine zE ?_;intro u1 H;refine zG (FV _ _ _ net _ u1 (HRI.out.below H.O) HNS.out) ?_;rintro e w2 ⟨AJ,nj,cj,FJ,rfl,hrj,hfr,hb⟩;replace H:=H.rf hb hrj hfr;rw[HOK.out];obtain rfl:=hrj.len;clear hrj hfr hb;refine zN ?_;clear H;intro u3 H;have zb:=Nat.lt_of_lt_of_le hbl H.m;refine zX (tg [b]) ?_;clear H;intro S w4 hne H;have r0:=H.row ((H.O.cell (p:=⟨b,off,none⟩) hbl).trans a0);have r1:=H.row ((H.O.cell (p:=⟨b,off+1,none⟩) hbl).trans a1);have r2:=H.row ((H.O.cell (p:=⟨b,off+2,none⟩) hbl).trans a2);refine yN ?_;clear H;intro u5 H;refine zG ((show Calls prog 61 #[_,_,_] u5 (NSd true u5) from by rw[<-HFIT.out];exact eo HNV.out HR.out HCC.out u5 (H.f 0).1 dU)) ?_
 rintro e w6 ⟨x0,y0,rfl,hb⟩;replace H:=H.b hb;refine zN ?_;clear H;intro u7 H;refine zX (tg [w.heap.size]) ?_;clear H;intro S w8 hne H;refine zD (H.c 2) ?_;intro G;refine yB ((show Calls prog 128 #[_,_,_] w8 (fb N w8) from by rw[HND.out];exact rC HNV.out HR.out HCC.out HFIT.out w8 (H.f 0).1 dU)) ?_;clear H;intro w9 H
 refine yB (rD N.a N.b N.c N.d w9 (HT.out.below H.O Ql)) ?_;clear H;intro w10 H;refine yS ?_;clear H;intro w11 H;refine yN ?_;clear H G;intro u12 H;refine zS_ ?_;clear H;intro u13 H
 exact(by rw[show eu m net s=some _ from HPA.out];exact⟨⟨A,c,css,F,rfl,HOX.out.below H.O⟩,UpL.eW H.O⟩)
end
end Go.Proofs.YtjciicheoghcdaaGreatDoor
