/- Part of the proof: the law FnServiceRun is true for every input. -/
import Derived.Test.YtjciicheoghcdaaGreatDoorVC
import Derived.Test.YtjciicheoghcdaaGreatDoorVu
namespace Go.Proofs.YtjciicheoghcdaaGreatDoor
open Go.RowKit Go.Proofs.Tryz
set_option linter.all false
set_option maxRecDepth 20000
set_option maxHeartbeats 16000000
section
attribute [local go_sem] af ah ae
theorem F_ (A:Option Addr) (len cap:Nat) (zs:List Int) (w:World) (ht:Tab w) (hm:iD w) (hw:ER .u8 w A len cap zs):Calls prog 7 #[.slice A len cap] w fun e w'=>e= .returned (.bool true)/\Below w.heap.size w w':=by
 obtain⟨hl,hcm,hr,hn0⟩:=El hw;have HT:=Qh ht;have HM:=Qh hm;clear ht hm hw
 by_cases hbig:1048576<len
 ·have h1:(1048576:Int)<(len:Int):=by omega
  clear hr hn0 hbig;refine zE ?_;intro u1 H;refine zR ?_;clear H;intro u2 H
  exact⟨rfl,H.O⟩
 ·have h1:(len:Int)<=1048576:=by omega
  have HB:=Qh hr;clear hr hbig;refine zE ?_;intro u1 H;refine zG (Gf A len cap u1 hl hcm (((HB.out.au fun j hj=>H.O.block j hj)).mono H.m) hn0) ?_
  rintro e w2 ⟨A1,c1,x,F,gB,d,ls,GB,rfl,hri,hrl,hsv,hll,hl21,hb⟩;have HB2:Hid (Below w.heap.size w w2):=H.O.trans (hb.mono H.m);have HT2:Hid (Tab w2):=HT.out.below HB2.out Ql;have HM2:Hid (iD w2):=HM.out.below HB2.out Ql;have HLL:=Qh hll;have HRI:=Qh hri;have HRL:=Qh hrl;have HS:=Qh hsv;clear H hri hrl hsv hll hb HB;have H:=Hq.start w2;refine zN ?_;clear H;intro u3 H;refine zG (Du HS.out HLL.out u3 (HT2.out.below H.O Ql) (HM2.out.below H.O Ql) (HRI.out.below H.O) (HRL.out.below H.O)) ?_;rintro e w4 ⟨r,A9,c9,F9,B9,d9,K9,hR,hk,rfl,ri,fr,rj,gr,ha,hb⟩;replace H:=H.rr hb ri fr rj gr ha;have HRX:=Qh hR;have HOK:=Qh hk;clear hR hk ri fr rj gr ha hb;refine zN ?_;clear H;intro u5 H;refine zG (Dz HS.out HLL.out u5 (HRI.out.below H.O) (HRL.out.below H.O)) ?_;rintro e w6 ⟨r',A6,c6,F6,B6,d6,K6,hR,hk,rfl,ri,fr,rj,gr,ha,hb⟩;replace H:=H.rr hb ri fr rj gr ha;obtain rfl:r=r':=HRX.out.symm.trans hR;clear hR hk ri fr rj gr ha hb;have hnl:((r.2.length:Int) != (r.2.length:Int))=false:=by simp
  refine zN ?_;clear H;intro u7 H;refine zB (DD u7 [.slice A9 r.1.1.length c9,.int .i64 r.1.2] [.slice A6 r.1.1.length c6,.int .i64 r.1.2] r.1 F9 F6 ⟨A9,c9,rfl,(H.f 4).1⟩ ⟨A6,c6,rfl,(H.f 1).1⟩ HOK.out.sv) ?_;clear H;intro w8 u8 H;replace H:=H.d 1;refine zG (iS u8 [.slice A1 x.1.length c1,.int .i64 x.2] x F ⟨A1,c1,rfl,HRI.out.below H.O⟩ HS.out) ?_;rintro e w9 ⟨rfl,hb⟩;replace H:=H.b hb;clear hb hnl
  cases hv:svB x
  ·obtain rfl:r=(([],0),[]):=HRX.out.symm.trans (Gm (by rw[hv];simp))
   clear hv;refine zN ?_;clear H;intro u10 H;refine zP (EZ u10) ?_;clear H;intro u11 H;refine zR ?_;clear H;intro u12 H
   exact⟨rfl,HB2.out.trans (H.O.mono HB2.out.size)⟩
  ·by_cases h20:20<ls.length
   ·have h20i:(20:Int)<(ls.length:Int):=by omega
    obtain rfl:r=(([],0),[]):=HRX.out.symm.trans (Gm (by omega))
    clear hv;refine zN ?_;clear H;intro u10 H;refine zP (EZ u10) ?_;clear H;intro u11 H;refine zR ?_;clear H;intro u12 H
    exact⟨rfl,HB2.out.trans (H.O.mono HB2.out.size)⟩
   ·have h20':ls.length<=20:=by omega
    have h20i:(ls.length:Int)<=20:=by omega
    obtain⟨h,hh⟩:∃ h:Nat,h=ls.length/2:=⟨_,rfl⟩;have hd2:(ls.length:Int).tdiv 2=(h:Int):=by rw[Int.tdiv_eq_ediv_of_nonneg (by omega)];omega
    have hd3:(ls.length:Int)/2=(h:Int):=by omega
    have hhn:h<=ls.length:=by omega
    have hdc:ls.length<=d:=HRL.out.2.1;have j0:(0:Int)<=(h:Int):=by omega
    have j1:(h:Int)<=(ls.length:Int):=by omega
    have j2:(h:Int)<=(d:Int):=by omega
    obtain⟨hap,hva⟩:=Gs hv h20' h;obtain⟨ra,hra⟩:∃ z,z=Rx x (ls.take h):=⟨_,rfl⟩;rw[<-hra] at hap hva;obtain⟨rc,hrc⟩:∃ z,z=Rx ra.1 (ls.drop h):=⟨_,rfl⟩;rw[<-hrc] at hap;have hla:ra.2.length=h:=by rw[hra,Gl hv (by rw[List.length_take];omega),List.length_take];omega
    have hlc:rc.2.length=ls.length-h:=by rw[hrc,Gl hva (by rw[List.length_drop];omega),List.length_drop]
    have hlr:r.2.length=ls.length:=by rw[<-HRX.out,Gl hv h20']
    have HE1:Hid (rc.1=r.1):=by rw[<-HRX.out,hap];rfl
    have HE2:Hid (ra.2++rc.2=r.2):=by rw[<-HRX.out,hap];rfl
    have ha20:ra.2.length<=20:=by omega
    have hr20:r.2.length<=20:=by omega
    have hc20:rc.2.length<=20:=by omega
    have HRA:=Qh hra;have HRC:=Qh hrc;have HLR:=Qh hlr;have HLA:=Qh hla;have HLC:=Qh hlc;have HH:=Qh hh;obtain⟨FT,hT⟩:=HRL.out.Gy hhn;obtain⟨FD,hD⟩:=HRL.out.Gv hhn;obtain⟨aDr,hADr⟩:∃ z:Option Addr,(if d=h then some (⟨gB,0,none⟩:Addr) else some ⟨gB,h,none⟩)=z:=⟨_,rfl⟩
    rw[hADr] at hD;have HTK:=Qh hT;have HDR:=Qh hD;clear hT hD hra hrc hap hva hla hlc hlr hh hv h20;refine zN ?_;clear H;intro u10 H;have E:=H.el;refine zXF (tgF [w2.heap.size] 8 10 (.cells #[.slice none 0 0,.int .i64 0] 25)) ?_;clear H;intro S w11 hne H;refine zD (H.c 5) ?_;intro G;intros;refine f_ (fun w12 (hb:Bw w11 w12)=>Du HS.out (fun l hl=>HLL.out l (List.mem_of_mem_take hl)) w12 (HT2.out.below (H.b hb).O Ql) (HM2.out.below (H.b hb).O Ql) (HRI.out.below (H.b hb).O) (HTK.out.below (H.b hb).O)) ?_;clear H
    rintro w12 K hK H e w13 ⟨za,A3,c3,F3,B3,d3,K3,hR,hk,rfl,ri,fr,rj,gr,ha,hb⟩;replace H:=H.rr hb ri fr rj gr ha;obtain rfl:ra=za:=HRA.out.trans hR;have HKA:=Qh hk;clear hR hk ri fr rj gr ha;refine fK ?_;clear hK K hb;refine yGv ?_;clear H;intro w14 g14 hg14 H;refine yS ?_;clear H;intro w15 H;refine yN ?_;clear H G;intro u16 H;have E:=H.el;refine zXF (tgF [g14] 8 12 (.cells #[.slice none 0 0,.int .i64 0] 25)) ?_;clear H;intro S w17 hne H;refine zD (H.c 0) ?_;intro G;intros;refine f_ (fun w18 (hb:Bw w17 w18)=>Du HKA.out.sv (fun l hl=>HLL.out l (List.mem_of_mem_drop hl)) w18 (HT2.out.below (H.b hb).O Ql) (HM2.out.below (H.b hb).O Ql) ((H.b hb).f 1).1 (HDR.out.below (H.b hb).O)) ?_;clear H
    rintro w18 K hK H e w19 ⟨zc,A4,c4,F4,B4,d4,K4,hR,hk,rfl,ri,fr,rj,gr,ha,hb⟩;replace H:=H.rr hb ri fr rj gr ha;obtain rfl:rc=zc:=HRC.out.trans hR;have HKC:=Qh hk;clear hR hk ri fr rj gr ha;refine fK ?_;clear hK K hb;refine yGv ?_;clear H;intro w20 g20 hg20 H;refine yS ?_;clear H;intro w21 H;intros
    repeat (first|(refine lc' ?_;intro K hK;go_big_quiet_op;go_big_quiet_on)|refine lk' ?_)
    refine aI ?_;replace H:=H.H;clear G;refine zC ?_;intro C;intros
    go_wp2_with (at_builtin;refine zM ?_)
    clear H C;intro u23 H;replace H:=Dt txE H;refine FH rfl _ _ rfl rfl rfl (H.x 0) (H.f 6).1 (by omega) H.m ?_
    intro gL cL w24 hX hO hc
    (try rw[Nat.zero_add,List.nil_append] at hX)
    replace H:=H.apS hX hO hc;clear hX hO hc;refine zC ?_;intro C;intros
    go_wp2_with (at_builtin;refine zM ?_)
    clear H C;intro u25 H;refine FH rfl _ _ rfl rfl rfl (H.x 0) (H.f 3).1 (by omega) H.m ?_
    intro gL cL w26 hX hO hc
    (try rw[Nat.zero_add,List.nil_append] at hX)
    replace H:=H.apS hX hO hc;clear hX hO hc;refine zN ?_;clear H;intro u27 H;replace H:=(((((((((((((H.d 3).d 3).d 3).d 3).d 3).d 7).r 1).r 4).r 3).r 4).r 6).r 6).r 6);intros;have HALL:Hid (ra.2.length+rc.2.length=r.2.length):=by have h1:=HLR.out;have h2:=HLA.out;have h3:=HLC.out;have h4:=HH.out;unfold Hid;omega
    rw[HALL.out] at H ⊢;rw[HE2.out] at H
    go_loopw [15] (fun i wr=>∃ k:Nat,k<=r.2.length/\i= .int .i64 k/\Hid (Hq w2 [qX txE w2.heap.size 9 (some ⟨gL,0,none⟩) (r.2.length) cL (r.2.map fun x=>[Value.string (bs x)]) (r.2) [],qR (kE smE) w2.heap.size A9 r.1.1.length c9 r.1.1 F9,qR txE w2.heap.size B9 r.2.length d9 r.2 K9,qR txE w2.heap.size B6 r.2.length d6 r.2 K6,qR (kE smE) w2.heap.size A4 rc.1.1.length c4 rc.1.1 F4,qB w4.heap.size 25 [.slice A9 r.1.1.length c9,.int .i64 r.1.2],qB g20 25 [.slice A4 rc.1.1.length c4,.int .i64 rc.1.2]] wr)) (fun i _=>r.2.length-(intOf i).toNat)
    case atStart=>exact⟨0,Nat.zero_le _,rfl,H⟩
    case round =>
     clear H;obtain⟨k,hk,rfl,H⟩:=hrel;have H:=H.out
     by_cases hlt:k<r.2.length
     ·obtain⟨y,hy,-⟩:=aH (xs:=r.2) (j:=k) hlt;have HY:=Qh hy;have k0:(0:Int)<=(k:Int):=by omega
      have k1:(k:Int)<(r.2.length:Int):=by omega
      have k3:((r.2.length:Int)<=(k:Int))=False:=by simp only[eq_iff_iff,iff_false];omega
      have hsm:((bs y).toList == (bs y).toList)=true:=by simp
      clear hy;refine zN ?_;clear H;intro u61 H;obtain⟨b1,o1,rfl,z1,-⟩:=(H.f 2).1.str HY.out;obtain⟨b2,o2,rfl,z2,-⟩:=(H.f 3).1.str HY.out;obtain⟨_,hal,-⟩:=OX.rf (H.x 0);have z3:=(hal.Gq HY.out).2;clear hal;refine zX (tg [b1,b2,gL]) ?_;clear H;intro S w62 hne H;obtain⟨_,hal,-⟩:=OX.rf (H.x 0);have r1:=H.row ((H.f 2).1.Gq HY.out).1;have r2:=H.row ((H.f 3).1.Gq HY.out).1;have r3:=(hal.Gq HY.out).1;rw[Nat.zero_add] at r3;replace r3:=H.row r3;clear hal;refine yL ?_;refine yL ?_;intros
      repeat (first|(refine lc' ?_;intro K hK;go_big_quiet_op;go_big_quiet_on)|refine lk' ?_)
      refine aI ?_;replace H:=H.H;refine zC ?_;intro C;intros;go_wp2
      go_roundw
      case rel=>exact⟨k+1,by omega,by go_num,H⟩
      case measure=>simp[intOf];omega
     ·obtain rfl:k=r.2.length:=by omega
      have hq1:((r.2.length:Int) == (ls.length:Int))=true:=by rw[HLR.out];simp
      have hq2:((r.2.length:Int) == (r.2.length:Int))=true:=by simp
      refine zN ?_;clear H;intro u81 H;refine zB ((show Calls prog 11 #[.agg #[.slice A4 rc.1.1.length c4,.int .i64 rc.1.2],.agg #[.slice A9 r.1.1.length c9,.int .i64 r.1.2]] u81 _ from by have hg:=(H.f 4).1;rw[HE1.out] at hg ⊢;exact DD u81 [.slice A4 r.1.1.length c4,.int .i64 r.1.2] [.slice A9 r.1.1.length c9,.int .i64 r.1.2] r.1 F4 F9 ⟨A4,c4,rfl,hg⟩ ⟨A9,c9,rfl,(H.f 1).1⟩ HOK.out.sv)) ?_;clear H;intro w82 u82 H
      refine zR ?_;clear H;intro u83 H
      exact⟨rfl,HB2.out.trans (H.O.mono HB2.out.size)⟩
end
end Go.Proofs.YtjciicheoghcdaaGreatDoor
