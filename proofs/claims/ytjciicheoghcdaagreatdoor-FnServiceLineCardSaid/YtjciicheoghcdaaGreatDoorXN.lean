/- Part of the proof that the law FnServiceLine of the given program returns true for every input. -/
import Derived.Test.YtjciicheoghcdaaGreatDoorXG
import Derived.Test.YtjciicheoghcdaaGreatDoorXI
import Derived.Test.YtjciicheoghcdaaGreatDoorXL
import Derived.Test.YtjciicheoghcdaaGreatDoorXM
namespace Go.Proofs.YtjciicheoghcdaaGreatDoor
open Go.RowKit
set_option linter.unusedSimpArgs false
set_option linter.unusedVariables false
set_option maxRecDepth 20000
set_option maxHeartbeats 16000000
def Rq (l:List UInt8) (w wr:World) (cs:Array Value) (A:Option Addr) (n cap:Nat) (vs:List Int) (Aw:Option Addr) (cw:Nat):Prop :=
 Blk wr w.heap.size 37 ZZ3/\Blk wr (w.heap.size+1) 37 cs/\OS wr w.heap.size A n cap vs/\VO wr w.heap.size 9 1 Aw (Lib.split l [32]).length cw (strs (Lib.split l [32]))/\Below w.heap.size w wr
def Rs (l:List UInt8) (w wr:World) (ro ga:Nat) (A:Option Addr) (n cap:Nat) (vs:List Int) (Aw:Option Addr) (cw:Nat):Prop:=Rq l w wr #[.int .i64 (ro:Int),.int .i64 (ga:Int),.slice A n cap] A n cap vs Aw cw
theorem Rq.below {l:List UInt8} {w wr w1:World} {cs:Array Value} {A Aw:Option Addr} {n cap cw:Nat} {vs:List Int} (h:Rq l w wr cs A n cap vs Aw cw) (hb:Below wr.heap.size wr w1):Rq l w w1 cs A n cap vs Aw cw:=by
 obtain ⟨h1,h2,h3,h4,h5⟩:=h
 exact ⟨h1.aa hb,h2.aa hb,h3.below hb,h4.below hb,bp hb h5.size h5⟩
theorem Rs.below {l:List UInt8} {w wr w1:World} {ro ga:Nat} {A Aw:Option Addr} {n cap cw:Nat} {vs:List Int} (h:Rs l w wr ro ga A n cap vs Aw cw) (hb:Below wr.heap.size wr w1):Rs l w w1 ro ga A n cap vs Aw cw:=Rq.below h hb
theorem Rq.set {l:List UInt8} {w wr:World} {cs:Array Value} {A Aw:Option Addr} {n cap cw:Nat} {vs:List Int} (h:Rq l w wr cs A n cap vs Aw cw) (i:Nat) (u:Value):Rq l w (wr.setCell ⟨w.heap.size+1,i,none⟩ u) (cs.setIfInBounds i u) A n cap vs Aw cw:=by
 obtain ⟨h1,h2,h3,h4,h5⟩:=h
 exact ⟨h1.far (p:=⟨w.heap.size+1,i,none⟩) (by dsimp only;omega) _,h2.dc i u,h3.dk h2 (by decide) _,h4.far (p:=⟨w.heap.size+1,i,none⟩) (h4.gu h2 (by decide)) _,h5.setCell (by dsimp only;omega) _⟩
theorem Rs.push {l:List UInt8} {w wr w1:World} {ro ga k cap g cap' cw:Nat} {A Aw:Option Addr} {vs:List Int} {v:Int} {o:Obj} (h:Rs l w wr ro ga A k cap vs Aw cw)
  (hown:w1.ownsRow w.heap.size 3 1 (.slice (some ⟨g,0,none⟩) (k+1) cap') (k+1) (vs.map (Value.int .i64)++[.int .i64 v])) (hg:(wr.alloc o).grownBy w1 (Value.slice A k cap).ownBlock)
  (hat:(Value.slice A k cap).ownBlock=some g\/g=wr.heap.size+1):Rq l w w1 #[.int .i64 (ro:Int),.int .i64 (ga:Int),.slice A k cap] (some ⟨g,0,none⟩) (k+1) cap' (vs++[v]) Aw cw:=by
 obtain ⟨h1,h2,h3,h4,h5⟩:=h;obtain ⟨k1,k2,k3,_⟩:=fS h3 h5 h5.size hown hg hat
 exact ⟨h1.bR k3 (bf h3 h1 (by decide)),h2.bR k3 (bf h3 h2 (by decide)),k1,h4.bR k3 (mZ h4 h3 (by decide)),k2⟩
theorem qy (l:List UInt8) (hl:l.length<=1048576) (w:World):Calls Tryz.prog 42 #[.string (bs l)] w (RMx l w):=by
 have HL:=Lib.hid hl;obtain ⟨u2,hu2⟩:∃ u,u=(w.alloc (.cells ZZ3 37)).alloc (.cells #[.int .i64 1,.int .i64 0,.slice none 0 0] 37):=⟨_,rfl⟩;have HO2:Hid (Below w.heap.size w u2):=by rw [hu2];exact ((Below.refl _ _).alloc (Nat.le_refl _) _).alloc (by simp) _
 have HB0:Hid (Blk u2 w.heap.size 37 ZZ3):=by rw [hu2];exact (Blk.new w _ _).alloc _
 have HB1:Hid (Blk u2 (w.heap.size+1) 37 #[.int .i64 1,.int .i64 0,.slice none 0 0]):=by
  rw [hu2];have h:=Blk.new (w.alloc (.cells ZZ3 37)) 37 #[.int .i64 1,.int .i64 0,.slice none 0 0]
  show Blk _ _ _ _
  simpa using h
 clear hl
 go_enter Tryz.func42,Tryz.ntmps42
 go_wp2_with fail
 rw [<- hu2];clear hu2;refine (tp l (Nat.le_trans HL.out (by omega)) u2).mono ?_
 rintro e w1 ⟨⟨Aw,cw,rfl,hv⟩,hb⟩;have HRS:Hid (Rs l w w1 1 0 none 0 0 [] Aw cw):=⟨HB0.out.aa hb,HB1.out.aa hb,OS.nil _ _,hv.mono HO2.out.size,bp hb HO2.out.size HO2.out⟩;have HPL:Hid ((Lib.split l [32]).length<=1048578):=by
  have h:=lR [32] (by simp) _ l (Nat.lt_succ_self _)
  have h2:=Lib.count_le l [32];have h3:=HL.out
  show _<=_
  omega
 obtain ⟨p,hp⟩:∃ p,p=(Lib.split l [32]).length:=⟨_,rfl⟩;rw [<- hp];have HP:=Lib.hid hp;clear hv hb hp
 go_wp2_with fail
 go_loopw [6] (fun q1 wr=>∃ (k ro ga cap:Nat) (A:Option Addr) (vs:List Int),k<=p/\q1= .int .i64 k/\ro<=k+1/\k<=25/\Hid (Ex l k vs ro ga)/\Hid (vs.length=k)/\Hid (Rs l w wr ro ga A k cap vs Aw cw)) (fun q1 _=>p-(intOf q1).toNat)
 case atStart=>exact ⟨0,1,0,0,none,[],Nat.zero_le _,rfl,by omega,by omega,Ex.start l,rfl,HRS⟩
 case round =>
  obtain ⟨k,ro,ga,cap,A,vs,hk,rfl,hro,hk25,hex,hvl,hrs⟩:=hrel;obtain ⟨wo,rfl⟩:∃ u:World,u=wr:=⟨_,rfl⟩;have k0:(0:Int)<=(k:Int):=by omega
  have hpI:p<=1048578:=by rw [HP.out];exact HPL.out
  by_cases hlt:k<p
  ·have k1:(k:Int)<(p:Int):=by omega
   have HK:Hid (k<(Lib.split l [32]).length):=by rw [<- HP.out];exact hlt
   obtain ⟨wd,hwd⟩:∃ x,x=(Lib.split l [32]).getD k []:=⟨_,rfl⟩;obtain ⟨gw,rfl,_,_⟩:=hrs.out.2.2.2.1.pos (by have:=HK.out;omega)
   obtain ⟨b,hb⟩:∃ b,b=bs wd:=⟨_,rfl⟩;have cx:wo.cell? ⟨gw,k,none⟩=some (.string b):=by rw [hrs.out.2.2.2.1.cell k (by have:=HK.out;omega),hb,hwd];exact jh HK.out
   have HWD:=Lib.hid hwd;have HWL:Hid (wd.length<=1048576):=by
    show _<=_
    rw [HWD.out]
    exact Nat.le_trans (bX (by simp) (eS HK.out)) HL.out
   have hbs:b.size=wd.length:=by rw [hb,aK]
   have HB:=Lib.hid hb;clear hwd hb;rcases List.eq_nil_or_concat wd with hnil | ⟨wi,c,hcat⟩
   ·have hz:b.toList.isEmpty=true:=by rw [mm];exact (jo _ _).2 (by rw [HB.out,hnil];rfl)
    have hb0:b=bs []:=by rw [HB.out,hnil]
    have HSW:Hid (sw ((Lib.split l [32]).getD k [])=[]):=by show _=_;rw [<- HWD.out,hnil];rfl
    rw [hb0] at cx hz;clear hbs hnil hb0
    go_wp2_with fail
    refine (iP [] (by simp) wo).mono ?_
    rintro e w3 ⟨v,ok,rfl,hrf,hb3⟩;have HR3:=Lib.hid (hrs.out.below hb3);have hok:ok=false:=by
     rcases hrf with ⟨_,_,h⟩ | ⟨h,_⟩
     ·exact absurd h (y9 v)
     ·exact h
    subst hok;have HRF:=Lib.hid hrf;clear hb3 hrf;have zl:w.heap.size<w3.heap.size:=HR3.out.1.lt;have z0:w3.cell? ⟨w.heap.size,0,none⟩=some (.int .i64 0):=HR3.out.1.cell 0;have z1:w3.cell? ⟨w.heap.size,1,none⟩=some (.int .i64 0):=HR3.out.1.cell 1;have z2:w3.cell? ⟨w.heap.size,2,none⟩=some (.slice none 0 0):=HR3.out.1.cell 2;have y0:w3.frozen? ⟨w.heap.size,0,none⟩=false:=HR3.out.1.frozen 0;have y1:w3.frozen? ⟨w.heap.size,1,none⟩=false:=HR3.out.1.frozen 1;have y2:w3.frozen? ⟨w.heap.size,2,none⟩=false:=HR3.out.1.frozen 2;have HBAD:=Lib.hid (hex.out.E9 HK.out (by rw [HSW.out];exact HRF.out))
    go_wp2
    exact bodyPost_ret (v:= .tuple #[MV 0 0 none 0 0,.bool false]) (by simp [results,Tryz.results42,go_sem,z0,z1,z2,y0,y1,y2,zl]) rfl (RMx.no HBAD.out (((HR3.out.2.2.2.2.setCell (Nat.le_refl _) _).setCell (Nat.le_refl _) _).setCell (Nat.le_refl _) _))
   ·rw [List.concat_eq_append] at hcat;obtain ⟨z,hz1⟩:∃ z,b.size=z+1:=⟨wi.length,by rw [hbs,hcat];simp⟩
    have hz:b.toList.isEmpty=false:=by rw [mm];exact iE (fun e=>by rw [e] at hz1;exact absurd hz1 (by show ¬ 0=z+1;omega))
    have hzl:wi.length=z:=by rw [hbs,hcat] at hz1;simpa using hz1
    have hzlt:z<b.size:=by omega
    obtain ⟨hkl,hbk⟩:=jY wd HB.out z hzlt;have hcz:wd[z]=c:=by
     have:wd[z]?=some c:=by rw [hcat,<- hzl];simp
     rw [List.getElem?_eq_getElem hkl] at this;injection this
    obtain ⟨y,hy⟩:∃ y:Int,(b[z].toNat:Int)=y:=⟨_,rfl⟩;have hyc:(c.toNat:Int)=y:=by rw [<- hy,<- hbk,hcz]
    have HWI:Hid (wi.length<=1048576):=by show _<=_;have:=HWL.out;rw [hcat,List.length_append] at this;omega
    have HCAT:=Lib.hid hcat;have z0:(0:Int)<=(z:Int):=by omega
    have zI:(z:Int)<=1048576:=by have:=HWL.out;omega
    by_cases hy59:y=59
    ·have hc59:c=59:=UInt8.toNat_inj.1 (by have e:(59:UInt8).toNat=59:=rfl;omega)
     have HE:Hid (ed ((Lib.split l [32]).getD k [])=true):=by show _=_;rw [<- HWD.out,hcat,hc59];exact pT _
     have HSW:Hid (sw ((Lib.split l [32]).getD k [])=wi):=by show _=_;rw [<- HWD.out,hcat,hc59];exact uA _
     have hext:b.extract 0 z=bs wi:=by
      have h:(b.extract 0 z).data.toList=wi:=by
       rw [Lib.extract_from_zero,HB.out,xD,hcat,<- hzl,List.take_left]
      rw [<- fe (b.extract 0 z),h]
     clear hbs hcat hzl hkl hbk hcz hyc hc59;subst hy59;clear z0;have z0':(0:Int)<=(z:Int):=by omega
     go_wp2_with fail
     refine (iP wi HWI.out wo).mono ?_;clear z0';rintro e w3 ⟨v,ok,rfl,hrf,hb3⟩;have HR3:=Lib.hid (hrs.out.below hb3);have HRF:=Lib.hid hrf;clear hb3 hrf
     cases ok
     ·have zl:w.heap.size<w3.heap.size:=HR3.out.1.lt;have z0:w3.cell? ⟨w.heap.size,0,none⟩=some (.int .i64 0):=HR3.out.1.cell 0;have z1:w3.cell? ⟨w.heap.size,1,none⟩=some (.int .i64 0):=HR3.out.1.cell 1;have z2:w3.cell? ⟨w.heap.size,2,none⟩=some (.slice none 0 0):=HR3.out.1.cell 2;have y0:w3.frozen? ⟨w.heap.size,0,none⟩=false:=HR3.out.1.frozen 0;have y1:w3.frozen? ⟨w.heap.size,1,none⟩=false:=HR3.out.1.frozen 1;have y2:w3.frozen? ⟨w.heap.size,2,none⟩=false:=HR3.out.1.frozen 2;have HBAD:=Lib.hid (hex.out.E9 HK.out (by rw [HSW.out];exact HRF.out))
      go_wp2
      exact bodyPost_ret (v:= .tuple #[MV 0 0 none 0 0,.bool false]) (by simp [results,Tryz.results42,go_sem,z0,z1,z2,y0,y1,y2,zl]) rfl (RMx.no HBAD.out (((HR3.out.2.2.2.2.setCell (Nat.le_refl _) _).setCell (Nat.le_refl _) _).setCell (Nat.le_refl _) _))
     ·by_cases h25:25<=k
      ·have h25I:(25:Int)<=(k:Int):=by omega
       have gl:w.heap.size+1<w3.heap.size:=HR3.out.2.1.lt;have g0:w3.cell? ⟨w.heap.size+1,0,none⟩=some (.int .i64 (ro:Int)):=HR3.out.2.1.cell 0;have g1:w3.cell? ⟨w.heap.size+1,1,none⟩=some (.int .i64 (ga:Int)):=HR3.out.2.1.cell 1;have g2:w3.cell? ⟨w.heap.size+1,2,none⟩=some (.slice A k cap):=HR3.out.2.1.cell 2;have h0:w3.frozen? ⟨w.heap.size+1,0,none⟩=false:=HR3.out.2.1.frozen 0;have h1:w3.frozen? ⟨w.heap.size+1,1,none⟩=false:=HR3.out.2.1.frozen 1;have h2:w3.frozen? ⟨w.heap.size+1,2,none⟩=false:=HR3.out.2.1.frozen 2;have zl:w.heap.size<w3.heap.size:=HR3.out.1.lt;have z0:w3.cell? ⟨w.heap.size,0,none⟩=some (.int .i64 0):=HR3.out.1.cell 0;have z1:w3.cell? ⟨w.heap.size,1,none⟩=some (.int .i64 0):=HR3.out.1.cell 1;have z2:w3.cell? ⟨w.heap.size,2,none⟩=some (.slice none 0 0):=HR3.out.1.cell 2;have y0:w3.frozen? ⟨w.heap.size,0,none⟩=false:=HR3.out.1.frozen 0;have y1:w3.frozen? ⟨w.heap.size,1,none⟩=false:=HR3.out.1.frozen 1;have y2:w3.frozen? ⟨w.heap.size,2,none⟩=false:=HR3.out.1.frozen 2;have ne1:¬ w.heap.size=w.heap.size+1:=by omega
       have HBAD:=Lib.hid (hex.out.Bv HK.out (by rw [hvl.out];exact h25))
       go_wp2
       exact bodyPost_ret (v:= .tuple #[MV 0 0 none 0 0,.bool false]) (by simp [results,Tryz.results42,go_sem,z0,z1,z2,y0,y1,y2,zl,ne1]) rfl (RMx.no HBAD.out (((HR3.out.2.2.2.2.setCell (Nat.le_refl _) _).setCell (Nat.le_refl _) _).setCell (Nat.le_refl _) _))
      ·have h25I:(k:Int)<25:=by omega
       have gl:w.heap.size+1<w3.heap.size:=HR3.out.2.1.lt;have g0:w3.cell? ⟨w.heap.size+1,0,none⟩=some (.int .i64 (ro:Int)):=HR3.out.2.1.cell 0;have g1:w3.cell? ⟨w.heap.size+1,1,none⟩=some (.int .i64 (ga:Int)):=HR3.out.2.1.cell 1;have g2:w3.cell? ⟨w.heap.size+1,2,none⟩=some (.slice A k cap):=HR3.out.2.1.cell 2;have h0:w3.frozen? ⟨w.heap.size+1,0,none⟩=false:=HR3.out.2.1.frozen 0;have h1:w3.frozen? ⟨w.heap.size+1,1,none⟩=false:=HR3.out.2.1.frozen 1;have h2:w3.frozen? ⟨w.heap.size+1,2,none⟩=false:=HR3.out.2.1.frozen 2;have hsz:w.heap.size<=w3.heap.size:=HR3.out.2.2.2.2.size;obtain ⟨i0',hi,hz0,hz1,hz2⟩:=info_parts eU
       go_wp2_with (at_builtin;refine wpList_append_lies _ rfl _ _ 35 rfl w.heap.size 3 i0' (.int .i64 0) 1 8 Tryz.underlying35 hi hz0 hz1 hz2 rfl (by decide) (.slice A k cap) k _ rfl (World.ownsRow.alloc HR3.out.2.2.1 _) ⟨w3.heap.size,0,none⟩ 1 1 [.int .i64 v] rfl rfl ?c1 ?c2 ?c3 ?c4 ?c5 ?c6 (w3.heap.size+1) ?c7 ?_)
       case c1=>exact fk _ _ _
       case c2=>simp [Value.oneCell']
       case c3=>omega
       case c4=>unfold maxLen;omega
       case c5=>omega
       case c6=>simp;omega
       case c7=>simp
       intro g cap' w4 hown hgrow hat _;have HR4:=Lib.hid (HR3.out.push hown hgrow hat);have hb4:=HR4.out.2.1;clear gl g0 g1 g2 h0 h1 h2;have gl:w.heap.size+1<w4.heap.size:=hb4.lt;have g0:w4.cell? ⟨w.heap.size+1,0,none⟩=some (.int .i64 (ro:Int)):=hb4.cell 0;have g1:w4.cell? ⟨w.heap.size+1,1,none⟩=some (.int .i64 (ga:Int)):=hb4.cell 1;have g2:w4.cell? ⟨w.heap.size+1,2,none⟩=some (.slice A k cap):=hb4.cell 2;have h0:w4.frozen? ⟨w.heap.size+1,0,none⟩=false:=hb4.frozen 0;have h1:w4.frozen? ⟨w.heap.size+1,1,none⟩=false:=hb4.frozen 1;have h2:w4.frozen? ⟨w.heap.size+1,2,none⟩=false:=hb4.frozen 2;have HEX:=Lib.hid (hex.out.step HK.out (by rw [HSW.out];exact HRF.out))
       have HED:Hid (ed ((Lib.split l [32]).getD k [])=true):=HE;have HVL:Hid ((vs++[v]).length=k+1):=by show _=_;rw [List.length_append,hvl.out];rfl
       clear hown hgrow hat hb4 hrs hex hsz
       by_cases hr1:ro=1
       ·have hrI:((ro:Int) == 1)=true:=by rw [hr1];rfl
        have HEX2:Hid (Ex l (k+1) (vs++[v]) (ro+1) (k+1)):=by
         have h:=HEX.out;rw [HED.out,if_pos rfl,if_pos hr1] at h
         exact h
        have HR5:Hid (Rs l w (((w4.setCell ⟨w.heap.size+1,2,none⟩ (.slice (some ⟨g,0,none⟩) (k+1) cap')).setCell ⟨w.heap.size+1,1,none⟩ (.int .i64 ((k:Int)+1))).setCell ⟨w.heap.size+1,0,none⟩ (.int .i64 ((ro:Int)+1))) (ro+1) (k+1) (some ⟨g,0,none⟩) (k+1) cap' (vs++[v]) (some ⟨gw,0,none⟩) cw):=by
         have h:=((HR4.out.set 2 (.slice (some ⟨g,0,none⟩) (k+1) cap')).set 1 (.int .i64 ((k+1:Nat):Int))).set 0 (.int .i64 ((ro+1:Nat):Int))
         exact h
        clear HR4 HEX HED hr1;go_wp2
        go_roundw
        case rel=>exact ⟨k+1,ro+1,k+1,cap',some ⟨g,0,none⟩,vs++[v],by omega,by go_num,by omega,by omega,HEX2,HVL,HR5⟩
        case measure=>simp [intOf];omega
       ·have hrI:((ro:Int) == 1)=false:=by simp;omega
        have HEX2:Hid (Ex l (k+1) (vs++[v]) (ro+1) ga):=by
         have h:=HEX.out;rw [HED.out,if_pos rfl,if_neg hr1] at h
         exact h
        have HR5:Hid (Rs l w ((w4.setCell ⟨w.heap.size+1,2,none⟩ (.slice (some ⟨g,0,none⟩) (k+1) cap')).setCell ⟨w.heap.size+1,0,none⟩ (.int .i64 ((ro:Int)+1))) (ro+1) ga (some ⟨g,0,none⟩) (k+1) cap' (vs++[v]) (some ⟨gw,0,none⟩) cw):=by
         have h:=(HR4.out.set 2 (.slice (some ⟨g,0,none⟩) (k+1) cap')).set 0 (.int .i64 ((ro+1:Nat):Int))
         exact h
        clear HR4 HEX HED hr1;go_wp2
        go_roundw
        case rel=>exact ⟨k+1,ro+1,ga,cap',some ⟨g,0,none⟩,vs++[v],by omega,by go_num,by omega,by omega,HEX2,HVL,HR5⟩
        case measure=>simp [intOf];omega
    ·have hc59:c≠59:=fun h=>hy59 (by rw [<- hyc,h];rfl)
     have HE:Hid (ed ((Lib.split l [32]).getD k [])=false):=by show _=_;rw [<- HWD.out,hcat];simp [ed,hc59]
     have HSW:Hid (sw ((Lib.split l [32]).getD k [])=wd):=by show _=_;have h:=HE.out;unfold sw;rw [h,<- HWD.out];rfl
     have hyb:(y == 59)=false:=beq_eq_false_iff_ne.2 hy59;have hbw:bs wd=b:=HB.out.symm;clear hbs hcat hzl hkl hbk hcz hyc hc59 hy59 z0;have z0':(0:Int)<=(z:Int):=by omega
     go_wp2_with fail
     rw [HB.out];refine (iP wd HWL.out wo).mono ?_;clear z0';rintro e w3 ⟨v,ok,rfl,hrf,hb3⟩;have HR3:=Lib.hid (hrs.out.below hb3);have HRF:=Lib.hid hrf;clear hb3 hrf
     cases ok
     ·have zl:w.heap.size<w3.heap.size:=HR3.out.1.lt;have z0:w3.cell? ⟨w.heap.size,0,none⟩=some (.int .i64 0):=HR3.out.1.cell 0;have z1:w3.cell? ⟨w.heap.size,1,none⟩=some (.int .i64 0):=HR3.out.1.cell 1;have z2:w3.cell? ⟨w.heap.size,2,none⟩=some (.slice none 0 0):=HR3.out.1.cell 2;have y0:w3.frozen? ⟨w.heap.size,0,none⟩=false:=HR3.out.1.frozen 0;have y1:w3.frozen? ⟨w.heap.size,1,none⟩=false:=HR3.out.1.frozen 1;have y2:w3.frozen? ⟨w.heap.size,2,none⟩=false:=HR3.out.1.frozen 2;have HBAD:=Lib.hid (hex.out.E9 HK.out (by rw [HSW.out];exact HRF.out))
      go_wp2
      exact bodyPost_ret (v:= .tuple #[MV 0 0 none 0 0,.bool false]) (by simp [results,Tryz.results42,go_sem,z0,z1,z2,y0,y1,y2,zl]) rfl (RMx.no HBAD.out (((HR3.out.2.2.2.2.setCell (Nat.le_refl _) _).setCell (Nat.le_refl _) _).setCell (Nat.le_refl _) _))
     ·by_cases h25:25<=k
      ·have h25I:(25:Int)<=(k:Int):=by omega
       have gl:w.heap.size+1<w3.heap.size:=HR3.out.2.1.lt;have g0:w3.cell? ⟨w.heap.size+1,0,none⟩=some (.int .i64 (ro:Int)):=HR3.out.2.1.cell 0;have g1:w3.cell? ⟨w.heap.size+1,1,none⟩=some (.int .i64 (ga:Int)):=HR3.out.2.1.cell 1;have g2:w3.cell? ⟨w.heap.size+1,2,none⟩=some (.slice A k cap):=HR3.out.2.1.cell 2;have h0:w3.frozen? ⟨w.heap.size+1,0,none⟩=false:=HR3.out.2.1.frozen 0;have h1:w3.frozen? ⟨w.heap.size+1,1,none⟩=false:=HR3.out.2.1.frozen 1;have h2:w3.frozen? ⟨w.heap.size+1,2,none⟩=false:=HR3.out.2.1.frozen 2;have zl:w.heap.size<w3.heap.size:=HR3.out.1.lt;have z0:w3.cell? ⟨w.heap.size,0,none⟩=some (.int .i64 0):=HR3.out.1.cell 0;have z1:w3.cell? ⟨w.heap.size,1,none⟩=some (.int .i64 0):=HR3.out.1.cell 1;have z2:w3.cell? ⟨w.heap.size,2,none⟩=some (.slice none 0 0):=HR3.out.1.cell 2;have y0:w3.frozen? ⟨w.heap.size,0,none⟩=false:=HR3.out.1.frozen 0;have y1:w3.frozen? ⟨w.heap.size,1,none⟩=false:=HR3.out.1.frozen 1;have y2:w3.frozen? ⟨w.heap.size,2,none⟩=false:=HR3.out.1.frozen 2;have ne1:¬ w.heap.size=w.heap.size+1:=by omega
       have HBAD:=Lib.hid (hex.out.Bv HK.out (by rw [hvl.out];exact h25))
       go_wp2
       exact bodyPost_ret (v:= .tuple #[MV 0 0 none 0 0,.bool false]) (by simp [results,Tryz.results42,go_sem,z0,z1,z2,y0,y1,y2,zl,ne1]) rfl (RMx.no HBAD.out (((HR3.out.2.2.2.2.setCell (Nat.le_refl _) _).setCell (Nat.le_refl _) _).setCell (Nat.le_refl _) _))
      ·have h25I:(k:Int)<25:=by omega
       have gl:w.heap.size+1<w3.heap.size:=HR3.out.2.1.lt;have g0:w3.cell? ⟨w.heap.size+1,0,none⟩=some (.int .i64 (ro:Int)):=HR3.out.2.1.cell 0;have g1:w3.cell? ⟨w.heap.size+1,1,none⟩=some (.int .i64 (ga:Int)):=HR3.out.2.1.cell 1;have g2:w3.cell? ⟨w.heap.size+1,2,none⟩=some (.slice A k cap):=HR3.out.2.1.cell 2;have h0:w3.frozen? ⟨w.heap.size+1,0,none⟩=false:=HR3.out.2.1.frozen 0;have h1:w3.frozen? ⟨w.heap.size+1,1,none⟩=false:=HR3.out.2.1.frozen 1;have h2:w3.frozen? ⟨w.heap.size+1,2,none⟩=false:=HR3.out.2.1.frozen 2;have hsz:w.heap.size<=w3.heap.size:=HR3.out.2.2.2.2.size;obtain ⟨i0',hi,hz0,hz1,hz2⟩:=info_parts eU
       go_wp2_with (at_builtin;refine wpList_append_lies _ rfl _ _ 35 rfl w.heap.size 3 i0' (.int .i64 0) 1 8 Tryz.underlying35 hi hz0 hz1 hz2 rfl (by decide) (.slice A k cap) k _ rfl (World.ownsRow.alloc HR3.out.2.2.1 _) ⟨w3.heap.size,0,none⟩ 1 1 [.int .i64 v] rfl rfl ?c1 ?c2 ?c3 ?c4 ?c5 ?c6 (w3.heap.size+1) ?c7 ?_)
       case c1=>exact fk _ _ _
       case c2=>simp [Value.oneCell']
       case c3=>omega
       case c4=>unfold maxLen;omega
       case c5=>omega
       case c6=>simp;omega
       case c7=>simp
       intro g cap' w4 hown hgrow hat _;have HR4:=Lib.hid (HR3.out.push hown hgrow hat);have hb4:=HR4.out.2.1;clear gl g0 g1 g2 h0 h1 h2;have gl:w.heap.size+1<w4.heap.size:=hb4.lt;have g0:w4.cell? ⟨w.heap.size+1,0,none⟩=some (.int .i64 (ro:Int)):=hb4.cell 0;have g1:w4.cell? ⟨w.heap.size+1,1,none⟩=some (.int .i64 (ga:Int)):=hb4.cell 1;have g2:w4.cell? ⟨w.heap.size+1,2,none⟩=some (.slice A k cap):=hb4.cell 2;have h0:w4.frozen? ⟨w.heap.size+1,0,none⟩=false:=hb4.frozen 0;have h1:w4.frozen? ⟨w.heap.size+1,1,none⟩=false:=hb4.frozen 1;have h2:w4.frozen? ⟨w.heap.size+1,2,none⟩=false:=hb4.frozen 2;have HEX:=Lib.hid (hex.out.step HK.out (by rw [HSW.out];exact HRF.out))
       have HED:Hid (ed ((Lib.split l [32]).getD k [])=false):=HE;have HVL:Hid ((vs++[v]).length=k+1):=by show _=_;rw [List.length_append,hvl.out];rfl
       clear hown hgrow hat hb4 hrs hex hsz
       by_cases hr1:ro=1
       ·have hrI:((ro:Int) == 1)=true:=by rw [hr1];rfl
        have HEX2:Hid (Ex l (k+1) (vs++[v]) ro (k+1)):=by
         have h:=HEX.out;rw [HED.out,if_neg (by decide),if_pos hr1] at h
         exact h
        have HR5:Hid (Rs l w ((w4.setCell ⟨w.heap.size+1,2,none⟩ (.slice (some ⟨g,0,none⟩) (k+1) cap')).setCell ⟨w.heap.size+1,1,none⟩ (.int .i64 ((k:Int)+1))) ro (k+1) (some ⟨g,0,none⟩) (k+1) cap' (vs++[v]) (some ⟨gw,0,none⟩) cw):=by
         have h:=(HR4.out.set 2 (.slice (some ⟨g,0,none⟩) (k+1) cap')).set 1 (.int .i64 ((k+1:Nat):Int))
         exact h
        clear HR4 HEX HED hr1;go_wp2
        go_roundw
        case rel=>exact ⟨k+1,ro,k+1,cap',some ⟨g,0,none⟩,vs++[v],by omega,by go_num,by omega,by omega,HEX2,HVL,HR5⟩
        case measure=>simp [intOf];omega
       ·have hrI:((ro:Int) == 1)=false:=by simp;omega
        have HEX2:Hid (Ex l (k+1) (vs++[v]) ro ga):=by
         have h:=HEX.out;rw [HED.out,if_neg (by decide),if_neg hr1] at h
         exact h
        have HR5:Hid (Rs l w (w4.setCell ⟨w.heap.size+1,2,none⟩ (.slice (some ⟨g,0,none⟩) (k+1) cap')) ro ga (some ⟨g,0,none⟩) (k+1) cap' (vs++[v]) (some ⟨gw,0,none⟩) cw):=by
         have h:=HR4.out.set 2 (.slice (some ⟨g,0,none⟩) (k+1) cap')
         exact h
        clear HR4 HEX HED hr1;go_wp2
        go_roundw
        case rel=>exact ⟨k+1,ro,ga,cap',some ⟨g,0,none⟩,vs++[v],by omega,by go_num,by omega,by omega,HEX2,HVL,HR5⟩
        case measure=>simp [intOf];omega
  ·obtain rfl:k=p:=by omega
   have hkk:=HP.out;have HEX:Hid (Ex l (Lib.split l [32]).length vs ro ga):=by show _;rw [<- HP.out];exact hex.out
   have HOS:=Lib.hid hrs.out.2.2.1;have gl:w.heap.size+1<wo.heap.size:=hrs.out.2.1.lt;have g0:wo.cell? ⟨w.heap.size+1,0,none⟩=some (.int .i64 (ro:Int)):=hrs.out.2.1.cell 0;have g1:wo.cell? ⟨w.heap.size+1,1,none⟩=some (.int .i64 (ga:Int)):=hrs.out.2.1.cell 1;have g2:wo.cell? ⟨w.heap.size+1,2,none⟩=some (.slice A k cap):=hrs.out.2.1.cell 2;have h0:wo.frozen? ⟨w.heap.size+1,0,none⟩=false:=hrs.out.2.1.frozen 0;have h1:wo.frozen? ⟨w.heap.size+1,1,none⟩=false:=hrs.out.2.1.frozen 1;have h2:wo.frozen? ⟨w.heap.size+1,2,none⟩=false:=hrs.out.2.1.frozen 2;clear hkk
   go_wp2_with fail
   refine (aM (ro:Int) (ga:Int) vs A k cap wo HOS.out.si (by omega)).mono ?_
   rintro e w3 ⟨rfl,hb3⟩;have HR3:=Lib.hid (hrs.out.below hb3);clear hb3 gl g0 g1 g2 h0 h1 h2;have ne1:¬ w.heap.size=w.heap.size+1:=by omega
   have ne2:¬ w.heap.size+1=w.heap.size:=by omega
   cases hv:mvB ⟨(ro:Int),(ga:Int),vs⟩
   ·have zl:w.heap.size<w3.heap.size:=HR3.out.1.lt;have z0:w3.cell? ⟨w.heap.size,0,none⟩=some (.int .i64 0):=HR3.out.1.cell 0;have z1:w3.cell? ⟨w.heap.size,1,none⟩=some (.int .i64 0):=HR3.out.1.cell 1;have z2:w3.cell? ⟨w.heap.size,2,none⟩=some (.slice none 0 0):=HR3.out.1.cell 2;have y0:w3.frozen? ⟨w.heap.size,0,none⟩=false:=HR3.out.1.frozen 0;have y1:w3.frozen? ⟨w.heap.size,1,none⟩=false:=HR3.out.1.frozen 1;have y2:w3.frozen? ⟨w.heap.size,2,none⟩=false:=HR3.out.1.frozen 2;have HBAD:=Lib.hid (HEX.out.fail (.inl hv));go_wp2
    exact bodyPost_ret (v:= .tuple #[MV 0 0 none 0 0,.bool false]) (by simp [results,Tryz.results42,go_sem,z0,z1,z2,y0,y1,y2,zl]) rfl (RMx.no HBAD.out (((HR3.out.2.2.2.2.setCell (Nat.le_refl _) _).setCell (Nat.le_refl _) _).setCell (Nat.le_refl _) _))
   ·have HV:=Lib.hid hv;clear hv;have gl:w.heap.size+1<w3.heap.size:=HR3.out.2.1.lt;have g0:w3.cell? ⟨w.heap.size+1,0,none⟩=some (.int .i64 (ro:Int)):=HR3.out.2.1.cell 0;have g1:w3.cell? ⟨w.heap.size+1,1,none⟩=some (.int .i64 (ga:Int)):=HR3.out.2.1.cell 1;have g2:w3.cell? ⟨w.heap.size+1,2,none⟩=some (.slice A k cap):=HR3.out.2.1.cell 2;have h0:w3.frozen? ⟨w.heap.size+1,0,none⟩=false:=HR3.out.2.1.frozen 0;have h1:w3.frozen? ⟨w.heap.size+1,1,none⟩=false:=HR3.out.2.1.frozen 1;have h2:w3.frozen? ⟨w.heap.size+1,2,none⟩=false:=HR3.out.2.1.frozen 2
    go_wp2_with fail
    refine (kM (ro:Int) (ga:Int) vs A k cap w3 HR3.out.2.2.1.si (by omega)).mono ?_
    rintro e w4 ⟨rfl,hb4⟩;have HR4:=Lib.hid (HR3.out.below hb4);clear hb4 gl g0 g1 g2 h0 h1 h2;have zl:w.heap.size<w4.heap.size:=HR4.out.1.lt;have z0:w4.cell? ⟨w.heap.size,0,none⟩=some (.int .i64 0):=HR4.out.1.cell 0;have z1:w4.cell? ⟨w.heap.size,1,none⟩=some (.int .i64 0):=HR4.out.1.cell 1;have z2:w4.cell? ⟨w.heap.size,2,none⟩=some (.slice none 0 0):=HR4.out.1.cell 2;have y0:w4.frozen? ⟨w.heap.size,0,none⟩=false:=HR4.out.1.frozen 0;have y1:w4.frozen? ⟨w.heap.size,1,none⟩=false:=HR4.out.1.frozen 1;have y2:w4.frozen? ⟨w.heap.size,2,none⟩=false:=HR4.out.1.frozen 2;have gl:w.heap.size+1<w4.heap.size:=HR4.out.2.1.lt;have g0:w4.cell? ⟨w.heap.size+1,0,none⟩=some (.int .i64 (ro:Int)):=HR4.out.2.1.cell 0;have g1:w4.cell? ⟨w.heap.size+1,1,none⟩=some (.int .i64 (ga:Int)):=HR4.out.2.1.cell 1;have g2:w4.cell? ⟨w.heap.size+1,2,none⟩=some (.slice A k cap):=HR4.out.2.1.cell 2;have h0:w4.frozen? ⟨w.heap.size+1,0,none⟩=false:=HR4.out.2.1.frozen 0;have h1:w4.frozen? ⟨w.heap.size+1,1,none⟩=false:=HR4.out.2.1.frozen 1;have h2:w4.frozen? ⟨w.heap.size+1,2,none⟩=false:=HR4.out.2.1.frozen 2
    by_cases ht:mt ⟨(ro:Int),(ga:Int),vs⟩=l
    ·have hne:((bs (mt ⟨(ro:Int),(ga:Int),vs⟩)).toList == (bs l).toList)=true:=by rw [<- Go.beq_toListBytes,jo,ht]
     have HG:Hid (RMp l ⟨(ro:Int),(ga:Int),vs⟩ true):= .inl ⟨rfl,HV.out,ht⟩;have HNL:=Lib.hid hvl.out;have hos:=HR4.out.2.2.1;have hbz:=HR4.out.1;have HOS2:=Lib.hid (((hos.dk hbz (by decide) (.int .i64 (ro:Int)) (i:=0)).dk (hbz.dc 0 _) (by decide) (.int .i64 (ga:Int)) (i:=1)).dk ((hbz.dc 0 _).dc 1 _) (by decide) (.slice A k cap) (i:=2))
     clear hos hbz ht;go_wp2
     exact bodyPost_ret (v:= .tuple #[MV (ro:Int) (ga:Int) A k cap,.bool true]) (by simp [results,Tryz.results42,go_sem,z0,z1,z2,y0,y1,y2,zl,g0,g1,g2,ne1,ne2]) rfl ⟨⟨(ro:Int),(ga:Int),vs⟩,true,A,cap,by dsimp only;rw [HNL.out],by dsimp only;rw [HNL.out];exact HOS2.out,HG.out,(((HR4.out.2.2.2.2.setCell (Nat.le_refl _) _).setCell (Nat.le_refl _) _).setCell (Nat.le_refl _) _)⟩
    ·have hne:((bs (mt ⟨(ro:Int),(ga:Int),vs⟩)).toList == (bs l).toList)=false:=by rw [<- Go.beq_toListBytes];exact iE (fun e=>ht (gU e))
     have HBAD:=Lib.hid (HEX.out.fail (.inr ht));go_wp2
     exact bodyPost_ret (v:= .tuple #[MV 0 0 none 0 0,.bool false]) (by simp [results,Tryz.results42,go_sem,z0,z1,z2,y0,y1,y2,zl,ne1,ne2]) rfl (RMx.no HBAD.out (((HR4.out.2.2.2.2.setCell (Nat.le_refl _) _).setCell (Nat.le_refl _) _).setCell (Nat.le_refl _) _))
end Go.Proofs.YtjciicheoghcdaaGreatDoor
