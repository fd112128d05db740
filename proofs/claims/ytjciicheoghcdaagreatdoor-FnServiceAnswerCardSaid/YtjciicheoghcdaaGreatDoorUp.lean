/- Part of the proof of FnServiceAnswer. -/
import Derived.Test.YtjciicheoghcdaaGreatDoorUn
namespace Go.Proofs.YtjciicheoghcdaaGreatDoor
open Go.RowKit Go.Proofs.Tryz
set_option linter.all false
set_option maxRecDepth 20000
set_option maxHeartbeats 16000000
section
def aP:List Mx->Int->List (Mx×Mx)×Int
 | [],s=>([],s)
 | m::ms,s=>((cH m s).1::(aP ms (cH m s).2).1,(aP ms (cH m s).2).2)
theorem fF:∀ (ms:List Mx) (m:Mx) (s:Int),aP (ms++[m]) s=((aP ms s).1++[(cH m (aP ms s).2).1],(cH m (aP ms s).2).2)
 | [],m,s=>rfl
 | a::ms,m,s=>by simp[aP,fF ms m (cH a s).2]
theorem pL:∀ (ms:List Mx) (s:Int),(aP ms s).1.length=ms.length
 | [],s=>rfl
 | a::ms,s=>by simp[aP,pL ms]
def GS (l:Int×List Mx) (s:Int):(Int×List (Mx×Mx))×Int:=((l.1,(aP l.2 s).1),(aP l.2 s).2)
def eE:List (Int×List Mx)->Int->List (Int×List (Mx×Mx))×Int
 | [],s=>([],s)
 | l::ls,s=>((GS l s).1::(eE ls (GS l s).2).1,(eE ls (GS l s).2).2)
theorem ow:∀ (ls:List (Int×List Mx)) (l:Int×List Mx) (s:Int),eE (ls++[l]) s=((eE ls s).1++[(GS l (eE ls s).2).1],(GS l (eE ls s).2).2)
 | [],l,s=>rfl
 | a::ls,l,s=>by simp[eE,ow ls l (GS a s).2]
theorem Eb:∀ (ls:List (Int×List Mx)) (s:Int),(eE ls s).1.length=ls.length
 | [],s=>rfl
 | a::ls,s=>by simp[eE,Eb ls]
def gH (net:List (Int×List Mx)) (s:Int):Bool:=(net.all fun l=>aL l.1 l.2) && (decide (net.length<=4) && sdB s)
def o_ (net:List (Int×List Mx)) (s:Int):List (Int×List (Mx×Mx))×Int:=if gH net s=true then eE net s else ([],0)
theorem tz {net:List (Int×List Mx)} {s:Int} (h:gH net s=false):o_ net s=([],0):=by unfold o_;rw[h];rfl
theorem tA {net:List (Int×List Mx)} {s:Int} (h:gH net s=true):o_ net s=eE net s:=by unfold o_;rw[h];rfl
theorem rZ {net:List (Int×List Mx)} {s:Int} {k:Nat} {l:Int×List Mx} (hk:net[k]?=some l) (h:aL l.1 l.2=false):gH net s=false:=by
 unfold gH;have:(net.all fun l=>aL l.1 l.2)=false:=List.all_eq_false.2 ⟨l,List.mem_of_getElem? hk,by rw[h];decide⟩
 rw[this,Bool.false_and]
theorem uU {net:List (Int×List Mx)} {s:Int} (h:∀ k l,k<net.length->net[k]?=some l->aL l.1 l.2=true):gH net s=(decide (net.length<=4) && sdB s):=by
 unfold gH;have:(net.all fun l=>aL l.1 l.2)=true:=List.all_eq_true.2 fun l hm=>by
  obtain⟨k,hk⟩:=List.getElem?_of_mem hm
  exact h k l (List.getElem?_eq_some_iff.1 hk).1 hk
 rw[this,Bool.true_and]
def SN (net:List (Int×List Mx)) (s:Int) (w:World) (e:Ending) (w':World):Prop:=∃ A n c css F,e= .returned (.tuple #[.slice A n c,.int .i64 (o_ net s).2])/\OX (kE smE) w' w.heap.size 99 A n c css (o_ net s).1 F/\Below w.heap.size w w'
theorem SN.no {net:List (Int×List Mx)} {s:Int} {w w1:World} (h:gH net s=false) (hb:Below w.heap.size w w1):SN net s w (.returned (.tuple #[.slice (some ⟨w1.heap.size,0,none⟩) 0 0,.int .i64 0])) (w1.alloc (.cells #[] 99)):=by
 refine⟨_,0,0,[],[],by rw[tz h],?_,hb.alloc hb.size _⟩
 rw[tz h]
 exact OX.kG w1 hb.size _
def NI (wo:World) (kd:Int) (ms:List Mx) (s:Int) (wi:World) (j:Nat) (A:Option Addr) (c:Nat):Prop :=
 Blk wi wo.heap.size 99 #[.int .i64 kd,.slice A j c]/\(∃ css F,OX smE wi (wo.heap.size+1) 82 A j c css (aP (ms.take j) s).1 F)/\Below wo.heap.size wo wi
section
variable {wo wi w4 w1:World} {kd s:Int} {ms:List Mx} {j c g cap:Nat} {A:Option Addr} {m:Mx} {o o':Obj} {css:List (List Value)} {F G:List Nat} {ys:List Value}
theorem NI.start (wo:World) (kd:Int) (ms:List Mx) (s:Int):NI wo kd ms s (wo.alloc (.cells #[.int .i64 kd,.slice none 0 0] 99)) 0 none 0 :=
 ⟨Blk.new _ _ _,⟨[],[],OX.nil _ _ _⟩,Qb.alloc Ql _⟩
theorem NI.next (h1:Blk wi wo.heap.size 99 #[.int .i64 kd,.slice A j c]) (hox:OX smE wi (wo.heap.size+1) 82 A j c css (aP (ms.take j) s).1 F) (h3:Below wo.heap.size wo wi) (hb:Below wi.heap.size wi w4)
  (hm:ms[j]?=some m) (hx:smE.P w4 ys (cH m (aP (ms.take j) s).2).1 G) (hf:Fr w4 wi.heap.size G)
  (hown:w1.ownsRow (wo.heap.size+1) 82 smE.s (.slice (some ⟨g,0,none⟩) (j+1) cap) (j+1) (css.flatten++ys))
  (hg:((w4.alloc o').alloc o).grownBy w1 (Value.slice A j c).ownBlock) (hat:(Value.slice A j c).ownBlock=some g\/g=(w4.alloc o').heap.size+1) :
  Blk w1 wo.heap.size 99 #[.int .i64 kd,.slice A j c]/\NI wo kd ms s (w1.setCell ⟨wo.heap.size,1,none⟩ (.slice (some ⟨g,0,none⟩) (j+1) cap)) (j+1) (some ⟨g,0,none⟩) cap:=by
 have hwi:wo.heap.size<wi.heap.size:=h1.lt;have hsz:=hb.size;have hb2:Below wi.heap.size wi (w4.alloc o'):=hb.alloc (by omega) _
 have hd:∀ g',g'∈G->g'∉F/\blk A≠some g':=fun g' hg'=>by
  have:=(hf.2 g' hg').1
  exact⟨fun h=>by have:=hox.lt g' h;omega,fun h=>by have:=(hox.aj g' h).2;omega⟩
 have h3':Below wo.heap.size wo (w4.alloc o'):=h3.trans (hb2.mono (by omega))
 have hks:∀ g',g'∈G->(w4.alloc o').heap[g']?=w4.heap[g']?:=fun g' hg'=>Below.heap_alloc w4 o' g' (hf.lt g' hg')
 obtain⟨k1,k2,k3⟩:=OX.push (hox.below hb2) (smE.au _ _ _ _ _ hx hks) ((hf.mono (by omega)).au hks) hd h3' (by omega) (by simp;omega) hown hg hat
 have k0:=(h1.aa hb2).bR k3 (hox.1.gu h1 (by decide))
 have e:(aP (ms.take (j+1)) s).1=(aP (ms.take j) s).1++[(cH m (aP (ms.take j) s).2).1]:=by rw[aW hm,fF]
 rw[<-e] at k1
 exact⟨k0,k0.dc 1 _,⟨_,_,k1.lX (by dsimp only;omega) _⟩,k2.setCell (by dsimp only;omega) _⟩
end
theorem jP (A:Option Addr) (n cap:Nat) (net:List (Int×List Mx)) (F:List Nat) (s:Int) (w:World) (hx:RI (kE mxE) w A n cap net F) (hs:GH (kS mS) net) :
  Calls prog 91 #[.slice A n cap,.int .i64 s] w (SN net s w):=by
 obtain⟨i0,hi,hz0,hz1,hz2⟩:=info_parts lq;obtain⟨i2,hi2,hy0,hy1,hy2⟩:=info_parts nJ;have bn:n<=1048576:=by rw[<-hx.1];exact hs.1
 have HLN:=Qh hx.1;have HS:=Qh hs.2;have hcall:Calls prog 135 #[.slice A n cap] w (fun e w'=>∃ A1 c1 F1,e= .returned (.slice A1 n c1)/\RI (kE mxE) w' A1 n c1 net F1/\Below w.heap.size w w'):=by
  refine(lN A n cap net F w hx bn hs.2).mono ?_;rintro e w' ⟨A1,c1,F1,he,h1,_,h3⟩;rw[hx.1] at he h1
  exact⟨A1,c1,F1,he,h1,h3⟩
 have HCALL:=Qh hcall;clear hcall hx hs
 go_enter func91,ntmps91
 go_wp2_with fail
 refine HCALL.out.mono ?_;rintro e w1 ⟨A1,c1,F1,rfl,hri,hb⟩;have HR1:=Qh hri;have HB1:=Qh hb;have HLT:Hid (∀ g,g∈F1->g<w1.heap.size):=hri.lt;have hw1:w.heap.size<=w1.heap.size:=hb.size;clear hri hb HCALL;go_wp2
 go_loopw [7] (fun i wr=>∃ k:Nat,k<=n/\i= .int .i64 k/\Hid (Below w1.heap.size (w1.alloc (.cells #[] 99)) wr)/\Hid ((w1.alloc (.cells #[] 99)).heap.size<=wr.heap.size/\Below (w1.heap.size+1) (w1.alloc (.cells #[] 99)) wr)/\Hid (∀ q l,q<k->net[q]?=some l->aL l.1 l.2=true)) (fun i _=>n-(intOf i).toNat)
 case atStart=>exact⟨0,Nat.zero_le _,rfl,Below.refl _ _,⟨Nat.le_refl _,Below.refl _ _⟩,fun q l hq=>absurd hq (by omega)⟩
 case round =>
 obtain⟨k,hk,rfl,hob0,hob1,hval⟩:=hrel;have hzz:(w1.alloc (.cells #[] 99)).heap.size=w1.heap.size+1:=by simp
 have hwr1:w1.heap.size+1<=wr.heap.size:=by have:=hob1.out.1;omega
 have HOB:Hid (Below w1.heap.size w1 wr):=((Below.refl w1.heap.size w1).alloc Ql _).trans hob0.out;have HOW:Hid (Below w.heap.size w wr):=HB1.out.trans (HOB.out.mono hw1);clear hzz
 by_cases hlt:k<n
 ·obtain⟨x,hxk,hmem⟩:=aH (xs:=net) (j:=k) (by have:=HLN.out;omega)
  have HXK:=Qh hxk;obtain⟨hsm,hsx⟩:=HS.out x hmem;have HSX:=Qh hsx;obtain⟨b,off,cs,Fx,rfl,hbl,hc,_,Aw,cw,rfl,hrw⟩:=(HR1.out.below HOB.out).cells hxk 2 rfl;have d0:wr.cell? ⟨b,off+k*2,none⟩=some (.int .i64 x.1):=hc 0 (by omega)
  have d1:wr.cell? ⟨b,off+k*2+1,none⟩=some (.slice Aw x.2.length cw):=hc 1 (by omega)
  have HRW:=Qh hrw;have k0:(0:Int)<=(k:Int):=by omega
  have k1:(k:Int)<(n:Int):=by omega
  clear hc hxk hmem hrw hsx
  go_wp2_with fail
  refine(dx x.1 Aw x.2.length cw x.2 Fx wr HRW.out HSX.out hsm).mono ?_;rintro e w5 ⟨rfl,hb5⟩;have HB5:Hid (Below w1.heap.size (w1.alloc (.cells #[] 99)) w5):=hob0.out.trans (hb5.mono (by omega))
  have HB6:Hid ((w1.alloc (.cells #[] 99)).heap.size<=w5.heap.size/\Below (w1.heap.size+1) (w1.alloc (.cells #[] 99)) w5):=⟨Nat.le_trans hob1.out.1 hb5.size,hob1.out.2.trans (hb5.mono hwr1)⟩;have HW5:Hid (Below w.heap.size w w5):=HOW.out.trans (hb5.mono (by omega))
  clear hb5
  cases hl:aL x.1 x.2
  ·have HFIN:=Qh (SN.no (rZ (s:=s) HXK.out hl) HW5.out);clear hl;go_wp2
   go_ret2
   exact HFIN.out
  ·have HV:Hid (∀ q l,q<k+1->net[q]?=some l->aL l.1 l.2=true):=by
    intro q l hq hl'
    by_cases hqk:q<k
    ·exact hval.out q l hqk hl'
    ·obtain rfl:q=k:=by omega
     rw[HXK.out] at hl';injection hl' with hl';subst hl'
     exact hl
   clear hl hval;go_wp2
   go_roundw
   case rel=>exact⟨k+1,by omega,by go_num,HB5,HB6,HV⟩
   case measure=>simp[intOf];omega
 ·obtain rfl:k=n:=by omega
  have hnv:gH net s=(decide (k<=4) && sdB s):=by
   have:=uU (s:=s) (net:=net) (fun q l hq hl=>hval.out q l (by rw[<-HLN.out];exact hq) hl)
   rw[HLN.out] at this
   exact this
  obtain⟨wb,hwb⟩:∃ wb,wb=wr:=⟨_,rfl⟩;have hv0:=OX.kG (E:=kE smE) w1 Ql 99;have HV0:Hid (∃ css F',OX (kE smE) wr w1.heap.size 99 (some ⟨w1.heap.size,0,none⟩) 0 0 css (eE (net.take 0) s).1 F'):=⟨[],[],hv0.au (by simp;omega) (fun g hl _=>hob1.out.2.block g (by simpa using hl))⟩
  have HRI:Hid (RI (kE mxE) wr A1 k c1 net F1):=HR1.out.below HOB.out;clear hv0 hval hob0 hob1 hwb
  by_cases n4:4<k
  ·have HNO:=Qh (SN.no (by rw[hnv,decide_eq_false (by omega),Bool.false_and]:gH net s=false) HOW.out)
   have t4:(4:Int)<(k:Int):=by omega
   clear hnv;go_wp2
   go_ret2
   exact HNO.out
  have t4:(k:Int)<=4:=by omega
  cases hsd:sdB s
  ·have HNO:=Qh (SN.no (by rw[hnv,hsd,Bool.and_false]:gH net s=false) HOW.out)
   clear hnv
   go_wp2_with fail
   refine Qc (kn s hsd wr) ?_;clear hsd;go_wp2
   go_ret2
   exact HNO.out
  have HEQ:Hid (o_ net s=eE net s):=tA (by rw[hnv,hsd,decide_eq_true (by omega)];rfl)
  clear hnv
  go_wp2_with fail
  refine Qc (kn s hsd wr) ?_;clear hsd;go_wp2
  go_loopw [1,6,8] (fun v1 v i wr=>∃ (q c':Nat) (A':Option Addr),q<=k/\i= .int .i64 q/\v1= .int .i64 (eE (net.take q) s).2/\v= .slice A' q c'/\Hid (∃ css F',OX (kE smE) wr w1.heap.size 99 A' q c' css (eE (net.take q) s).1 F')/\Hid (RI (kE mxE) wr A1 k c1 net F1)/\Hid (Below w.heap.size w wr)/\w1.heap.size+1<=wr.heap.size) (fun _ _ i _=>k-(intOf i).toNat)
  case atStart=>exact⟨0,0,_,Nat.zero_le _,rfl,rfl,rfl,HV0,HRI,HOW,hwr1⟩
  case round =>
  obtain⟨q,cA,A',hq,rfl,rfl,rfl,hox,hri,hob,hw1o⟩:=hrel;clear HV0 HRI HOW HOB hwr1 wb;obtain⟨wo,rfl⟩:∃ u:World,u=wr:=⟨_,rfl⟩
  by_cases hqk:q<k
  ·obtain⟨x,hxk,hmem⟩:=aH (xs:=net) (j:=q) (by have:=HLN.out;omega)
   have HXK:=Qh hxk;obtain⟨hsm,hsx⟩:=HS.out x hmem;have HSX:=Qh hsx;obtain⟨b,off,cs,Fx,rfl,hbl,hc,_,Aw,cw,rfl,hrw⟩:=hri.out.cells hxk 2 rfl;obtain⟨m,hm⟩:∃ m,m=x.2.length:=⟨_,rfl⟩;rw[<-hm] at hc hrw hsm;have HM:=Qh hm;have d0:wo.cell? ⟨b,off+q*2,none⟩=some (.int .i64 x.1):=hc 0 (by omega)
   have d1:wo.cell? ⟨b,off+q*2+1,none⟩=some (.slice Aw m cw):=hc 1 (by omega)
   have HRW:=Qh hrw;have k0:(0:Int)<=(q:Int):=by omega
   have k1:(q:Int)<(k:Int):=by omega
   obtain⟨s0,hs0⟩:∃ s0,s0=(eE (net.take q) s).2:=⟨_,rfl⟩;rw[<-hs0];have HS0:=Qh hs0;have J0:Hid (NI wo x.1 x.2 s0 (wo.alloc (.cells #[.int .i64 x.1,.slice none 0 0] 99)) 0 none 0):=NI.start wo x.1 x.2 s0;clear hc hxk hmem hm hrw hsx hs0;go_wp2
   go_loopw [1,10] (fun v1 i wr=>∃ (j c':Nat) (A'':Option Addr),j<=m/\i= .int .i64 j/\v1= .int .i64 (aP (x.2.take j) s0).2/\Hid (NI wo x.1 x.2 s0 wr j A'' c')) (fun _ i _=>m-(intOf i).toNat)
   case atStart=>exact⟨0,0,none,Nat.zero_le _,rfl,rfl,J0⟩
   case round =>
   obtain⟨j,cI,AI,hj,rfl,rfl,hji⟩:=hrel;clear J0;have cl0:wr.cell? ⟨wo.heap.size,0,none⟩=some (.int .i64 x.1):=hji.out.1.cell 0;have cl1:wr.cell? ⟨wo.heap.size,1,none⟩=some (.slice AI j cI):=hji.out.1.cell 1;have zl:wo.heap.size<wr.heap.size:=hji.out.1.lt;have zb:b<wr.heap.size:=by omega
   have e1:wr.cell? ⟨b,off+q*2+1,none⟩=some (.slice Aw m cw):=(hji.out.2.2.cell (p:=⟨b,off+q*2+1,none⟩) hbl).trans d1
   by_cases hjm:j<m
   ·obtain⟨p,hpj,hpm⟩:=aH (xs:=x.2) (j:=j) (by have:=HM.out;omega)
    have HPJ:=Qh hpj;have hsp:=HSX.out p hpm;obtain⟨b2,off2,cs,Fp,rfl,hbl2,hc,_,hP⟩:=(HRW.out.below hji.out.2.2).cells hpj 3 rfl;have HP:=Qh hP;obtain⟨P1,q1,rfl,hp1⟩:=hP;have a0:wr.cell? ⟨b2,off2+j*3,none⟩=some (.int .i64 p.r):=hc 0 (by omega)
    have a1:wr.cell? ⟨b2,off2+j*3+1,none⟩=some (.int .i64 p.c):=hc 1 (by omega)
    have a2:wr.cell? ⟨b2,off2+j*3+2,none⟩=some (.slice P1 p.v.length q1):=hc 2 (by omega)
    have j0:(0:Int)<=(j:Int):=by omega
    have j1:(j:Int)<(m:Int):=by omega
    clear hc hpj hpm hp1;obtain⟨hB1,⟨css,FI,hoxI⟩,hB3⟩:=hji.out;have HBK:=Qh hB1;have HOXI:=Qh hoxI;have HB3:=Qh hB3;have hcs:=hoxI.dC;clear hB1 hoxI hB3;obtain⟨sj,hsj⟩:∃ sj,sj=(aP (x.2.take j) s0).2:=⟨_,rfl⟩;rw[<-hsj];have HSJ:=Qh hsj;clear hsj
    go_wp2_with fail
    refine(D9 wr _ p _ HP.out hsp sj).mono ?_;rintro e w4 ⟨ds,G,rfl,hQ,hG,hb4⟩;have HQ:=Qh hQ;obtain⟨Ba,da,Bb,db,Ga,Gb,rfl,hn1,hn2,_⟩:=hQ;obtain⟨pp,hpp⟩:∃ pp,pp=cH p sj:=⟨_,rfl⟩;rw[<-hpp] at HQ;rw[<-hpp];have HPP:=Qh hpp;have HG:=Qh hG;have HB4:=Qh hb4;have h4:wr.heap.size<=w4.heap.size:=hb4.size;have cl4:w4.cell? ⟨wo.heap.size,1,none⟩=some (.slice AI j cI):=(HBK.out.aa hb4).cell 1;have zl4:wo.heap.size<w4.heap.size:=by omega
    clear hG hb4 hpp hn1 hn2
    go_wp2_with (at_builtin;refine wpList_append_lies _ rfl _ _ 97 rfl (wo.heap.size+1) 82 i0 (.agg #[.int .i64 0,.int .i64 0,.slice none 0 0,.int .i64 0,.int .i64 0,.slice none 0 0]) 6 80 underlying97 hi hz0 hz1 hz2 rfl (by decide) (.slice AI j cI) j _ rfl (World.ownsRow.alloc (World.ownsRow.alloc (HOXI.out.below HB4.out).1 _) _) ⟨w4.heap.size+1,0,none⟩ 1 1 [.int .i64 pp.1.1.r,.int .i64 pp.1.1.c,.slice Ba pp.1.1.v.length da,.int .i64 pp.1.2.r,.int .i64 pp.1.2.c,.slice Bb pp.1.2.v.length db] rfl rfl ?c1 ?c2 ?c3 ?c4 ?c5 ?c6 (w4.heap.size+1+1) ?c7 ?_)
    case c1 =>
     have h:=dz (w4.alloc (.cells #[.int .i64 pp.1.1.r,.int .i64 pp.1.1.c,.slice Ba pp.1.1.v.length da,.int .i64 pp.1.2.r,.int .i64 pp.1.2.c,.slice Bb pp.1.2.v.length db] 82)) 82 [.int .i64 pp.1.1.r,.int .i64 pp.1.1.c,.slice Ba pp.1.1.v.length da,.int .i64 pp.1.2.r,.int .i64 pp.1.2.c,.slice Bb pp.1.2.v.length db];rw[World.size_alloc] at h
     exact h
    case c2=>intro u hu;simp at hu;rcases hu with rfl|rfl|rfl|rfl|rfl|rfl <;> rfl
    case c3=>omega
    case c4=>unfold maxLen;omega
    case c5=>omega
    case c6=>simp;omega
    case c7=>simp
    intro g cap5 w5 hown hgrow hat hlt5;have hNI:=NI.next (ms:=x.2) (s:=s0) (m:=p) HBK.out HOXI.out HB3.out HB4.out HPJ.out (by rw[<-HSJ.out,<-HPP.out];exact HQ.out) HG.out hown hgrow (hat.imp id (fun h=>by rw[World.size_alloc];exact h))
    have K0:w5.cell? ⟨wo.heap.size,1,none⟩=some (.slice AI j cI):=hNI.1.cell 1;have K1:w5.frozen? ⟨wo.heap.size,1,none⟩=false:=hNI.1.frozen 1;have K2:=Qh hNI.2;have k3:pp.2=(aP (x.2.take (j+1)) s0).2:=by rw[HPP.out,HSJ.out,aW HPJ.out,fF]
    have K3:=Qh k3;clear k3;clear hNI hown hgrow hat HOXI HQ HG HB4 HBK;go_wp2
    go_roundw
    case rel=>exact⟨j+1,cap5,some ⟨g,0,none⟩,by omega,by go_num,by rw[K3.out],K2⟩
    case measure=>simp[intOf];omega
   ·obtain rfl:j=m:=by omega
    obtain⟨hB1,⟨css,FI,hoxI⟩,hB3⟩:=hji.out;rw[List.take_of_length_le (by rw[HM.out];exact Nat.le_refl _)] at hoxI
    obtain⟨F2,hr2,hf2⟩:=hoxI.ri;have HB3:=Qh hB3;have HR2:=Qh hr2;have HF2:=Qh hf2;have HBW:Hid (Below w.heap.size w wr):=hob.out.trans (hB3.mono hob.out.size);clear hB1 hoxI hB3 hr2 hf2 hji;obtain⟨cssO,FO,hoxO⟩:=hox.out;have HOXO:=Qh (hoxO.below HB3.out);have hml:(aP x.2 s0).1.length=j:=by rw[pL,HM.out]
    have HQ:Hid ((kE smE).P wr [.int .i64 x.1,.slice AI j cI] (GS x s0).1 F2):=⟨AI,cI,by simp[GS,hml],by have:=HR2.out;simpa [GS,hml] using this⟩
    have HG:Hid (Fr wr w1.heap.size F2):=HF2.out.mono (by omega)
    have HD:Hid (∀ g,g∈F2->g∉FO/\blk A'≠some g):=fun g hg=>⟨fun h=>by have:=hoxO.lt g h;have:=(HF2.out.2 g hg).1;omega,fun h=>by have:=(hoxO.aj g h).2;have:=(HF2.out.2 g hg).1;omega⟩
    clear hoxO hox hml;have hcq:q<=4:=by omega
    go_wp2_with (at_builtin;refine wpList_append_lies _ rfl _ _ 23 rfl w1.heap.size 99 i2 (.agg #[.int .i64 0,.slice none 0 0]) 2 32 underlying23 hi2 hy0 hy1 hy2 rfl (by decide) (.slice A' q cA) q _ rfl (World.ownsRow.alloc HOXO.out.1 _) ⟨wr.heap.size,0,none⟩ 1 1 [.int .i64 x.1,.slice AI j cI] rfl rfl ?c1 ?c2 ?c3 ?c4 ?c5 ?c6 (wr.heap.size+1) ?c7 ?_)
    case c1=>exact dz wr _ _
    case c2=>intro u hu;simp at hu;rcases hu with rfl|rfl <;> rfl
    case c3=>omega
    case c4=>unfold maxLen;omega
    case c5=>omega
    case c6=>simp;omega
    case c7=>simp
    intro g cap6 w6 hown hgrow hat hlt6;obtain⟨r1,r2,r3⟩:=OX.push HOXO.out HQ.out HG.out HD.out HBW.out hw1 (by omega) hown hgrow hat
    have he:(eE (net.take (q+1)) s)=((eE (net.take q) s).1++[(GS x s0).1],(GS x s0).2):=by rw[aW HXK.out,ow,<-HS0.out]
    have K1:Hid (∃ css F',OX (kE smE) w6 w1.heap.size 99 (some ⟨g,0,none⟩) (q+1) cap6 css (eE (net.take (q+1)) s).1 F'):=by rw[he];exact⟨_,_,r1⟩
    have K2:=Qh r2;have K3:Hid (RI (kE mxE) w6 (some ⟨b,off,none⟩) k c1 net F1):=(hri.out.below HB3.out).au fun g' hg'=>r3.block g' ((hri.out.below HB3.out).lt g' hg') (fun e=>by have:=(HOXO.out.aj g' e.symm).1;have:=HLT.out g' hg';omega)
    have k4:(aP (x.2.take j) s0).2=(eE (net.take (q+1)) s).2:=by rw[he,List.take_of_length_le (by rw[HM.out];exact Nat.le_refl _)];rfl
    have K4:=Qh k4;clear k4;have hw6:w1.heap.size+1<=w6.heap.size:=by have:=r3.size;omega
    clear r1 r2 r3 he hown hgrow hat HOXO HQ HG HD HBW;go_wp2
    go_roundw
    case rel=>exact⟨q+1,cap6,_,by omega,by go_num,by rw[K4.out],rfl,K1,K3,K2,hw6⟩
    case measure=>simp[intOf];omega
  ·obtain rfl:q=k:=by omega
   obtain⟨css,F',hox'⟩:=hox.out;rw[List.take_of_length_le (by rw[HLN.out];exact Nat.le_refl _),<-HEQ.out] at hox'
   have HSN:Hid (SN net s w (.returned (.tuple #[.slice A' q cA,.int .i64 (eE (net.take q) s).2])) wo):=by
    refine⟨A',q,cA,css,F',?_,hox'.mono hw1,hob.out⟩;rw[List.take_of_length_le (by rw[HLN.out];exact Nat.le_refl _),HEQ.out]
   clear hox' hox;go_wp2
   go_ret2
   exact HSN.out
end
section
attribute [local go_sem] af ah ae
theorem j9 {o:Oper} {a:Act} {w:World} {R:Value->World->Prop} (s x:Operand) (t:TypeId) (ho:o.op= .call { callee:= .builtin .append,args:=#[s,x],argTypes:=#[t,t] })
  (base:Nat) (e:TypeId) (i:TypeInfo) (z:Value) (size bytes:Nat) (ht:prog.underlying t=some (.slice e)) (hi:prog.info? e=some i) (hz:i.zero=some z)
  (hsize:i.size=size) (hby:i.bytes=bytes) (hzs:z.cells.size=size) (hsz:0<size)
  (v:Value) (n:Nat) (xs:List Value) (hs:a.eval s=v) (hown:w.ownsRow base e size v n xs)
  (ad:Addr) (m c:Nat) (news:List Value) (hx:a.eval x= .slice (some ad) m c) (hl:news.length=m*size) (hnews:∀ j u,news[j]?=some u->w.cell? (ad.add j)=some u) (h1:∀ u∈news,u.oneCell'=true)
  (hm:0<m) (h63:n+m<=maxLen) (hbytes:(n+m)*bytes<=140737488355328) (hbase:base<=w.heap.size) (H:Nat) (hH:w.heap.size=H)
  (h:∀ g cap w',w'.ownsRow base e size (.slice (some ⟨g,0,none⟩) (n+m) cap) (n+m) (xs++news)->w.grownBy w' v.ownBlock->(v.ownBlock=some g\/g=H)->g<w'.heap.size->R (.slice (some ⟨g,0,none⟩) (n+m) cap) w'):Oper.gives prog o a w R:=by
 obtain⟨g,cap,w',hr,h2,h3,h4,h5⟩:=run_append_lies (P:=prog) w t o.type base e i z size bytes ht hi hz hsize hby hzs hsz v n xs hown ad m c news hl hnews h1 hm h63 hbytes hbase H hH;unfold Oper.gives execOp;simp only[ho,resolve,invoke,builtin,Sem.run_bind,Sem.run_pure,Result.andThen_ok,List.map_toArray,List.map_cons,List.map_nil,hs,hx,hr]
 exact h g cap w' h2 h3 h4 h5
def PI (wo:World) (gj:Nat) (kd:Int) (ms:List Mx) (s:Int) (wi:World) (j:Nat) (A:Option Addr) (c:Nat):Prop :=
 Blk wi gj 99 #[.int .i64 kd,.slice A j c]/\(∃ css F,OX smE wi (gj+1) 82 A j c css (aP (ms.take j) s).1 F)/\Below wo.heap.size wo wi
theorem PI.next {wo wi w4 w1:World} {kd s:Int} {ms:List Mx} {j c g cap gj:Nat} {A:Option Addr} {m:Mx} {o:Obj} {css:List (List Value)} {F G:List Nat} {ys:List Value} (hwg:wo.heap.size<=gj) (h1:Blk wi gj 99 #[.int .i64 kd,.slice A j c]) (hox:OX smE wi (gj+1) 82 A j c css (aP (ms.take j) s).1 F) (h3:Below wo.heap.size wo wi) (hb:Below wi.heap.size wi w4)
  (hm:ms[j]?=some m) (hx:smE.P w4 ys (cH m (aP (ms.take j) s).2).1 G) (hf:Fr w4 wi.heap.size G)
  (hown:w1.ownsRow (gj+1) 82 smE.s (.slice (some ⟨g,0,none⟩) (j+1) cap) (j+1) (css.flatten++ys))
  (hg:(w4.alloc o).grownBy w1 (Value.slice A j c).ownBlock) (hat:(Value.slice A j c).ownBlock=some g\/g=w4.heap.size+1) :
  Blk w1 gj 99 #[.int .i64 kd,.slice A j c]/\PI wo gj kd ms s (w1.setCell ⟨gj,1,none⟩ (.slice (some ⟨g,0,none⟩) (j+1) cap)) (j+1) (some ⟨g,0,none⟩) cap:=by
 have hwi:gj<wi.heap.size:=h1.lt;have hsz:=hb.size;have hd:∀ g',g'∈G->g'∉F/\blk A≠some g':=fun g' hg'=>by
  have:=(hf.2 g' hg').1
  exact⟨fun h=>by have:=hox.lt g' h;omega,fun h=>by have:=(hox.aj g' h).2;omega⟩
 have h3':Below wo.heap.size wo w4:=h3.trans (hb.mono (by omega))
 obtain⟨k1,k2,k3⟩:=OX.push (hox.below hb) hx (hf.mono (by omega)) hd h3' (by omega) (by omega) hown hg hat
 have k0:=(h1.aa hb).bR k3 (hox.1.gu h1 (by decide))
 have e:(aP (ms.take (j+1)) s).1=(aP (ms.take j) s).1++[(cH m (aP (ms.take j) s).2).1]:=by rw[aW hm,fF]
 rw[<-e] at k1
 exact⟨k0,k0.dc 1 _,⟨_,_,k1.lX (by dsimp only;omega) _⟩,k2.setCell (by dsimp only;omega) _⟩
theorem PI.BS {ms:List Mx} {j:Nat} {m:Mx} {s:Int} (hm:ms[j]?=some m):(aP (ms.take (j+1)) s).2=(cH m (aP (ms.take j) s).2).2:=by rw[aW hm,fF]
theorem fE:∀ {ms:List Mx} {s:Int},sdB s=true->(∀ m,m∈ms->mvB m=true)->sdB (aP ms s).2=true
 | [],_,hs,_=>hs
 | m::ms,s,hs,h=>fE (ms:=ms) (by rw[lS (h m (List.mem_cons_self ..)) hs];exact o9 hs _) (fun x hx=>h x (List.mem_cons_of_mem _ hx))
def Cw (kd:Int) (ms:List Mx) (s:Int) (w:World) (e:Ending) (w':World):Prop:=∃ g A c css F,e= .returned (.tuple #[.slice (some ⟨g,0,none⟩) 1 1,.int .i64 (aP ms s).2])/\Blk w' g 99 #[.int .i64 kd,.slice A ms.length c]/\OX smE w' (g+1) 82 A ms.length c css (aP ms s).1 F/\w.heap.size<=g/\Below w.heap.size w w'
theorem lD {k:Int} {ms:List Mx} (h:aL k ms=true):∀ m,m∈ms->mvB m=true:=by
 intro m hm;rcases eM (l:=(k,ms)) h with⟨_,a,b,e,h1,h2,_⟩|⟨_,e⟩|⟨_,a,b,c,e,h1,h2,h3,_⟩ <;> dsimp only at e <;> subst e
 ·simp at hm;rcases hm with rfl|rfl <;> assumption
 ·cases hm
 ·simp at hm;rcases hm with rfl|rfl|rfl <;> assumption
theorem DI {kd s:Int} {ms:List Mx} (hl:aL kd ms=true) (hs:sdB s=true) {A:Option Addr} {cap:Nat} {F:List Nat} (w:World) (hx:RI (kE mxE) w A 1 cap [(kd,ms)] F) :
  Calls prog 124 #[.slice A 1 cap,.int .i64 s] w (Cw kd ms s w):=by
 obtain⟨i0,hi,hz0,hz1,hz2⟩:=info_parts lq;have hmv:=lD hl;have hm25:∀ m,m∈ms->mS m:=fun m hm=>by have:=(dy (hmv m hm)).2;unfold mS;omega
 obtain⟨n,hn⟩:∃ n,n=ms.length:=⟨_,rfl⟩;have h3:n<=3:=by rw[hn];exact ud (l:=(kd,ms)) hl
 have HNV:Hid (tb [(kd,ms)]):=⟨by simp,fun l h=>by simp at h;subst h;exact hl⟩
 have HMS:Hid (∀ l,l∈[(kd,ms)]->∀ m,m∈l.2->mS m):=fun l h=>by simp at h;subst h;exact hm25
 obtain⟨b,off,cs,Fx,rfl,hbl,hc,_,Aw,cw,rfl,hrw⟩:=hx.cells (i:=0) (x:=(kd,ms)) rfl 2 rfl;have d0:w.cell? ⟨b,off,none⟩=some (.int .i64 kd):=by have:=hc 0 (by omega);simpa using this
 have d1:w.cell? ⟨b,off+1,none⟩=some (.slice Aw n cw):=by have:=hc 1 (by omega);rw[hn];simpa using this
 have HRW:Hid (RI mxE w Aw n cw ms Fx):=by rw[hn];exact hrw
 have HXN:=Qh hx;have HMVS:=Qh hmv;have HS:=Qh hs;have HN:=Qh hn;have hmo:(Obj.cells (madeCells ZL (1*ZL.size)) 99)= .cells #[.int .i64 0,.slice none 0 0] 99:=by kernel_rfl
 have hmk:∀ W:World,(Instr.makeSlice 23 (.int .i64 1) (.int .i64 1)).run prog W= .ok (.slice (some ⟨W.heap.size,0,none⟩) 1 1) (W.alloc (.cells #[.int .i64 0,.slice none 0 0] 99)):=fun W=>by have h:=zf 1 (by omega) W;rw[hmo] at h;exact h
 clear hx hc hmv hm25 hl hs hn hrw hmo
 go_enter func124,ntmps124
 go_wp2_with fail
 refine(zq HNV.out w HXN.out HMS.out).mono ?_;rintro e w2 ⟨g,vs,rfl,-,-,hb⟩;have HB:=Qh hb;have e0:=(hb.cell (p:=⟨b,off,none⟩) hbl).trans d0;have e1:=(hb.cell (p:=⟨b,off+1,none⟩) hbl).trans d1;have zb:=Nat.lt_of_lt_of_le hbl hb.size;clear hb
 go_wp2_with fail
 refine Qc (aU (dH HS.out) w2) ?_;go_wp2;refine wp_loop_rounds 2 ?_;rw[rounds_succ];go_wp2;have J0:Hid (PI w2 w2.heap.size kd ms s ((w2.alloc (.cells #[.int .i64 kd,.slice none 0 0] 99)).alloc (.cells #[.int .i64 kd,.slice Aw n cw] 80)) 0 none 0):=⟨(Blk.new _ _ _).alloc _,⟨[],[],OX.nil _ _ _⟩,(Qb.alloc Ql _).alloc (by simp) _⟩
 go_loopw [1,45] (fun sd i wr=>∃ (j c':Nat) (A':Option Addr) (sj:Int),j<=n/\sd= .int .i64 sj/\i= .int .i64 j/\Hid (sj=(aP (ms.take j) s).2)/\Hid (PI w2 w2.heap.size kd ms s wr j A' c')) (fun _ i _=>n-(intOf i).toNat)
 case atStart=>exact⟨0,0,none,s,Nat.zero_le _,rfl,rfl,rfl,J0⟩
 case round =>
 clear J0;obtain⟨j,cI,AI,sj,hj,rfl,rfl,HSJ,hpi⟩:=hrel;obtain⟨hbj,⟨cssI,FI,hox⟩,hob⟩:=hpi.out;have BJ:=hbj;have HBJ:=Qh hbj;have HOX:=Qh hox;have HOB:=Qh hob;have HBW:Hid (Below w.heap.size w wr):=HB.out.trans (hob.mono HB.out.size);clear hbj hox hob hpi
 by_cases hjm:j<n
 ·obtain⟨p,hpj,hpm⟩:=aH (xs:=ms) (j:=j) (by have:=HN.out;omega)
  have HPJ:=Qh hpj;have HMV:=Qh (HMVS.out p hpm);have HSD:Hid (sdB sj=true):=by rw[HSJ.out];exact fE HS.out (fun m hm=>HMVS.out m (List.mem_of_mem_take hm))
  obtain⟨z,hz⟩:∃ z,z=cH p sj:=⟨_,rfl⟩;have HSN:Hid (z.2=(aP (ms.take (j+1)) s).2):=by rw[Hid,PI.BS hpj,<-HSJ.out,<-hz]
  have HZ:=Qh hz;obtain⟨b2,off2,cs2,Fp,rfl,hbl2,hc,_,P1,q1,rfl,hp1⟩:=HRW.out.cells hpj 3 rfl;have a0:wr.cell? ⟨b2,off2+j*3,none⟩=some (.int .i64 p.r):=(HBW.out.cell (p:=⟨b2,off2+j*3,none⟩) hbl2).trans (hc 0 (by omega))
  have a1:wr.cell? ⟨b2,off2+j*3+1,none⟩=some (.int .i64 p.c):=(HBW.out.cell (p:=⟨b2,off2+j*3+1,none⟩) hbl2).trans (hc 1 (by omega))
  have a2:wr.cell? ⟨b2,off2+j*3+2,none⟩=some (.slice P1 p.v.length q1):=(HBW.out.cell (p:=⟨b2,off2+j*3+2,none⟩) hbl2).trans (hc 2 (by omega))
  have HRM:Hid (RM wr (MV p.r p.c P1 p.v.length q1) p):=(RM.mk hp1.1 hp1.2.1 hp1.2.2.1).below HBW.out;have zb2:=Nat.lt_of_lt_of_le hbl2 HBW.out.size;have j0:(0:Int)<=(j:Int):=by omega
  have j1:(j:Int)<(n:Int):=by omega
  have H2:Hid (j+1<=maxLen):=by unfold maxLen;show j+1<=_;omega
  have H3:Hid ((j+1)*80<=140737488355328):=by show (j+1)*80<=_;omega
  clear hc hpj hpm hp1 hz;obtain⟨z8,c8_0,f8_0,c8_1,f8_1⟩:=BJ.f2
  go_wp2_with fail
  obtain⟨uw41,hu⟩:∃ u,u=((wr.alloc (.cells #[.int .i64 p.r,.int .i64 p.c,.slice P1 p.v.length q1] 37)).alloc (.cells #[.int .i64 0,.int .i64 0,.slice none 0 0,.int .i64 0,.int .i64 0,.slice none 0 0] 82)):=⟨_,rfl⟩;rw[<-hu];replace BJ:=Blk.cast hu ((BJ.alloc _).alloc _);have B21:Blk uw41 (wr.heap.size) 37 #[.int .i64 p.r,.int .i64 p.c,.slice P1 p.v.length q1]:=Blk.cast hu ((Blk.iA (by first|omega|(simp;done)|(simp;omega))).alloc _)
  have y8_21:w2.heap.size<wr.heap.size:=by omega
  have B22:Blk uw41 (wr.heap.size+1) 82 #[.int .i64 0,.int .i64 0,.slice none 0 0,.int .i64 0,.int .i64 0,.slice none 0 0]:=Blk.cast hu (Blk.iA (by first|omega|(simp;done)|(simp;omega)))
  have y8_22:w2.heap.size<wr.heap.size+1:=by omega
  have O:Below wr.heap.size wr uw41:=Below.cast hu ((Qb.alloc (by first|omega|(simp;done)|(simp;omega)) _).alloc (by first|omega|(simp;done)|(simp;omega)) _)
  have mw:=O.size;clear z8 c8_0 f8_0 c8_1 f8_1;clear hu;refine((show Calls prog 125 #[_,_] uw41 (tI z.1 z.2 uw41) from by rw[HZ.out];exact e8 HMV.out HSD.out uw41 (RM.below HRM.out O))).mono ?_
  rintro e w42 ⟨X,Y,cx,cy,rfl,f1,f2,f3,hb⟩;have F1:=f1.mono (base':=wr.heap.size) mw;have F2:=f2.mono (base':=wr.heap.size) mw;replace BJ:=BJ.aa hb;replace B21:=B21.aa hb;replace B22:=B22.aa hb;replace O:=O.trans (hb.mono mw);replace mw:=O.size;clear f1 f2;clear hb;obtain⟨z8,c8_0,f8_0,c8_1,f8_1⟩:=BJ.f2;obtain⟨z21,c21_0,f21_0,c21_1,f21_1,c21_2,f21_2⟩:=B21.f3;obtain⟨z22,c22_0,f22_0,c22_1,f22_1,c22_2,f22_2,c22_3,f22_3,c22_4,f22_4,c22_5,f22_5⟩:=B22.f6
  go_wp2_with fail
  obtain⟨uw43,hu⟩:∃ u,u=((((((w42.setCell ⟨wr.heap.size+1,0,none⟩ (.int .i64 z.1.1.r)).setCell ⟨wr.heap.size+1,1,none⟩ (.int .i64 z.1.1.c)).setCell ⟨wr.heap.size+1,2,none⟩ (.slice X z.1.1.v.length cx)).setCell ⟨wr.heap.size+1,3,none⟩ (.int .i64 z.1.2.r)).setCell ⟨wr.heap.size+1,4,none⟩ (.int .i64 z.1.2.c)).setCell ⟨wr.heap.size+1,5,none⟩ (.slice Y z.1.2.v.length cy)):=⟨_,rfl⟩;rw[<-hu];replace F1:=OS.cast hu (OS.Ep F1 B22 (by decide) (aZ.refl _ _).s1.s1.s1.s1.s1.s1)
  replace F2:=OS.cast hu (OS.Ep F2 B22 (by decide) (aZ.refl _ _).s1.s1.s1.s1.s1.s1)
  have q1:w2.heap.size≠wr.heap.size+1:=by omega
  replace BJ:=Blk.cast hu (BJ.only (aZ.refl _ _).s1.s1.s1.s1.s1.s1 q1);have q2:wr.heap.size≠wr.heap.size+1:=by omega
  replace B21:=Blk.cast hu (B21.only (aZ.refl _ _).s1.s1.s1.s1.s1.s1 q2);replace B22:Blk uw43 (wr.heap.size+1) 82 #[.int .i64 z.1.1.r,.int .i64 z.1.1.c,.slice X z.1.1.v.length cx,.int .i64 z.1.2.r,.int .i64 z.1.2.c,.slice Y z.1.2.v.length cy]:=Blk.cast hu ((((((B22.dc 0 _).dc 1 _).dc 2 _).dc 3 _).dc 4 _).dc 5 _);have q3:wr.heap.size<=wr.heap.size+1:=by omega
  replace O:=Below.cast hu ((((((O.setCell q3 _).setCell q3 _).setCell q3 _).setCell q3 _).setCell q3 _).setCell q3 _);replace mw:=O.size;clear z8 c8_0 f8_0 c8_1 f8_1 z21 c21_0 f21_0 c21_1 f21_1 c21_2 f21_2 z22 c22_0 f22_0 c22_1 f22_1 c22_2 f22_2 c22_3 f22_3 c22_4 f22_4 c22_5 f22_5;clear hu;clear q1 q2 q3;obtain⟨S,KP,KQ,KA,KU,KC⟩:=BK (u:=uw43) [w2.heap.size,wr.heap.size+1] (by intro i hi;simp only[List.mem_cons,List.not_mem_nil,or_false] at hi;rcases hi with rfl|rfl;exact BJ.lt;exact B22.lt)
  have g8_0:∀ zw:Wd S,zw.w.cell? ⟨w2.heap.size,0,none⟩=some (.int .i64 kd):=fun zw=>(KC.out zw _ (by simp) _).trans (BJ.cell 0)
  have g8_1:∀ zw:Wd S,zw.w.cell? ⟨w2.heap.size,1,none⟩=some (.slice AI j cI):=fun zw=>(KC.out zw _ (by simp) _).trans (BJ.cell 1)
  have g22_0:∀ zw:Wd S,zw.w.cell? ⟨wr.heap.size+1,0,none⟩=some (.int .i64 z.1.1.r):=fun zw=>(KC.out zw _ (by simp) _).trans (B22.cell 0)
  have g22_1:∀ zw:Wd S,zw.w.cell? ⟨wr.heap.size+1,1,none⟩=some (.int .i64 z.1.1.c):=fun zw=>(KC.out zw _ (by simp) _).trans (B22.cell 1)
  have g22_2:∀ zw:Wd S,zw.w.cell? ⟨wr.heap.size+1,2,none⟩=some (.slice X z.1.1.v.length cx):=fun zw=>(KC.out zw _ (by simp) _).trans (B22.cell 2)
  have g22_3:∀ zw:Wd S,zw.w.cell? ⟨wr.heap.size+1,3,none⟩=some (.int .i64 z.1.2.r):=fun zw=>(KC.out zw _ (by simp) _).trans (B22.cell 3)
  have g22_4:∀ zw:Wd S,zw.w.cell? ⟨wr.heap.size+1,4,none⟩=some (.int .i64 z.1.2.c):=fun zw=>(KC.out zw _ (by simp) _).trans (B22.cell 4)
  have g22_5:∀ zw:Wd S,zw.w.cell? ⟨wr.heap.size+1,5,none⟩=some (.slice Y z.1.2.v.length cy):=fun zw=>(KC.out zw _ (by simp) _).trans (B22.cell 5)
  refine dZ noX true S (by kernel_rfl) (by kernel_rfl) (fun _=>by kernel_rfl) (KP.out _ Qb.drew) ?_
  intro hne;have hb:=(Below.refl uw43.heap.size uw43).drew;obtain⟨w44,hd⟩:∃ u,u=uw43.drew:=⟨_,rfl⟩;rw[<-hd] at hb ⊢
  (try simp only[Nat.add_assoc,Nat.reduceAdd])
  clear hd;have hS:=Qh (KP.out _ hb);replace BJ:=BJ.aa hb;replace B21:=B21.aa hb;replace B22:=B22.aa hb;replace F1:=F1.below hb;replace F2:=F2.below hb;replace O:=O.trans (hb.mono mw);replace mw:=O.size;clear hb
  repeat (first|(refine aF (by rfl) (by rfl) ?_;intro K hK;go_big_quiet_op;go_big_quiet_on)|(refine aG (by rfl) ?_))
  refine bj (by rfl) (by rfl) (fun K hK=>?_)
  unfold Oper.gives
  go_simp
  refine hK _ _ ⟨⟨_,KA _ _ hS.out⟩,rfl⟩ ?_;clear hK K
  repeat (first|(refine aF (by rfl) (by rfl) ?_;intro K hK;go_big_quiet_op;go_big_quiet_on)|(refine aG (by rfl) ?_))
  refine bj (by rfl) (by rfl) (fun K hK=>?_)
  refine j9 _ _ _ (by rfl) (w2.heap.size+1) 82 i0 (.agg #[.int .i64 0,.int .i64 0,.slice none 0 0,.int .i64 0,.int .i64 0,.slice none 0 0]) 6 80 underlying97 hi hz0 hz1 hz2 rfl (by omega) (.slice AI j cI) j _ (by rfl) (World.ownsRow.alloc (HOX.out.below O).1 _) ⟨w44.heap.size,0,none⟩ 1 1 [.int .i64 z.1.1.r,.int .i64 z.1.1.c,.slice X z.1.1.v.length cx,.int .i64 z.1.2.r,.int .i64 z.1.2.c,.slice Y z.1.2.v.length cy] (by rfl) rfl (fun jj u h=>dz _ _ _ jj u h) (by intro u hu;simp at hu;rcases hu with rfl|rfl|rfl|rfl|rfl|rfl <;> rfl) (by omega) H2.out H3.out (by simp;omega) (w44.heap.size+1) (by simp) ?_
  intro g5 cap5 w5 hown hgr hat hlt5;have hP:smE.P w44 [.int .i64 z.1.1.r,.int .i64 z.1.1.c,.slice X z.1.1.v.length cx,.int .i64 z.1.2.r,.int .i64 z.1.2.c,.slice Y z.1.2.v.length cy] z.1 (fpI X z.1.1.v.length++fpI Y z.1.2.v.length):=⟨X,cx,Y,cy,_,_,rfl,MF.aB F1,MF.aB F2,rfl⟩;have hFR:Fr w44 wr.heap.size (fpI X z.1.1.v.length++fpI Y z.1.2.v.length):=Fr.app (ek F1) (ek F2) (fun g h1 h2=>f3 g (bz h1).2 (bz h2).2)
  have HN5:=Qh (PI.next Ql HBJ.out HOX.out HOB.out O HPJ.out (by rw[<-HSJ.out,<-HZ.out];exact hP) hFR hown hgr hat)
  have hUp:UpL (fun i=>blk AI=some i) (w44.alloc (.cells #[.int .i64 z.1.1.r,.int .i64 z.1.1.c,.slice X z.1.1.v.length cx,.int .i64 z.1.2.r,.int .i64 z.1.2.c,.slice Y z.1.2.v.length cy] 82)) w5:=UpL.bR UpL.refl (by unfold bJ;rw[<-aO AI j cI];exact hgr) (fun i _ e=>e)
  have hNs:∀ i,i∈[w2.heap.size,wr.heap.size+1]->¬(blk AI=some i):=(by intro i hi e;simp only[List.mem_cons,List.not_mem_nil,or_false] at hi;rcases hi with rfl|rfl;exact HOX.out.1.gu HBJ.out (by decide) e;have:=(HOX.out.aj _ e).2;omega)
  go_simp
  refine hK _ _ ⟨⟨_,KU _ _ _ hUp hNs (KA _ _ hS.out)⟩,rfl⟩ ?_;clear hK K hUp hNs hP hFR hown hat
  repeat (first|(refine aF (by rfl) (by rfl) ?_;intro K hK;go_big_quiet_op;go_big_quiet_on)|(refine aG (by rfl) ?_))
  have BJ5:=HN5.out.1;obtain⟨z5,c5_0,f5_0,c5_1,f5_1⟩:=BJ5.f2;refine aV rfl (by rfl) (by rfl) (fun K hK=>?_)
  unfold Oper.gives
  go_simp
  refine hK _ _ ?_;clear hK K z5 c5_0 f5_0 c5_1 f5_1 BJ5
  repeat (first|(refine aF (by rfl) (by rfl) ?_;intro K hK;go_big_quiet_op;go_big_quiet_on)|(refine aG (by rfl) ?_))
  refine aI ?_;clear hne KP KQ KA KU KC hS g8_0 g8_1 g22_0 g22_1 g22_2 g22_3 g22_4 g22_5;go_wp2
  go_roundw
  case rel=>exact⟨j+1,cap5,some ⟨g5,0,none⟩,z.2,by omega,rfl,by go_num,HSN,Qh HN5.out.2⟩
  case measure=>simp[intOf];omega
 ·obtain rfl:j=n:=by omega
  obtain⟨z8,c8_0,f8_0,c8_1,f8_1⟩:=BJ.f2
  go_wp2_with fail
  rw[rounds_succ];go_wp2
  go_ret2
  have hox:=HOX.out;rw[List.take_of_length_le (by rw[HN.out];exact Nat.le_refl _)] at hox
  have hsj:=HSJ.out;rw[List.take_of_length_le (by rw[HN.out];exact Nat.le_refl _)] at hsj
  exact⟨w2.heap.size,AI,cI,cssI,FI,by rw[hsj];rfl,by rw[<-HN.out];exact BJ,by rw[<-HN.out];exact hox,HB.out.size,HBW.out⟩
theorem nC {kd:Int} {ms:List Mx} (hl:aL kd ms=false) (hms:∀ m,m∈ms->mS m) (hlen:ms.length<=1048576) {A:Option Addr} {cap:Nat} {F:List Nat} (w:World) (hx:RI (kE mxE) w A 1 cap [(kd,ms)] F) :
  Calls prog 62 #[.slice A 1 cap] w fun e w'=>e= .returned (.tuple #[.slice none 0 0,.bool false])/\Below w.heap.size w w':=by
 obtain⟨n,hn⟩:∃ n,n=ms.length:=⟨_,rfl⟩;obtain⟨b,off,cs,Fx,rfl,hbl,hc,_,Aw,cw,rfl,hrw⟩:=hx.cells (i:=0) (x:=(kd,ms)) rfl 2 rfl;have d0:w.cell? ⟨b,off,none⟩=some (.int .i64 kd):=by have:=hc 0 (by omega);simpa using this
 have d1:w.cell? ⟨b,off+1,none⟩=some (.slice Aw n cw):=by have:=hc 1 (by omega);rw[hn];simpa using this
 have HRW:Hid (RI mxE w Aw n cw ms Fx):=by rw[hn];exact hrw
 have hb25:n<=1048576:=by rw[hn];exact hlen
 have HMS:=Qh hms;have HL:=Qh hl;have hmk:∀ W:World,(Instr.makeSlice 105 (.int .i64 1) (.int .i64 1)).run prog W= .ok (.slice (some ⟨W.heap.size,0,none⟩) 1 1) (W.alloc (.cells #[.nilIface] 110)):=fun W=>by have h:=ze 1 (by omega) W;rw[show madeCells #[Value.nilIface] (1*1)=#[.nilIface] by kernel_rfl] at h;exact h
 clear hx hc hl hms hlen hn hrw
 go_enter func62,ntmps62
 go_wp2;refine wp_loop_rounds 2 ?_;rw[rounds_succ]
 go_wp2_with fail
 refine(lj kd Aw n cw ms Fx w _ HRW.out ((Qb.alloc Ql _).alloc (by simp) _) HMS.out hb25).mono ?_
 rintro e w5 ⟨v,rfl,-,hb⟩;rw[HL.out];have O:Below w.heap.size w w5:=Below.trans ((Qb.alloc Ql _).alloc (by simp) _) (hb.mono (by simp;omega))
 clear hb HRW;go_wp2
 go_ret2
 exact⟨rfl,O⟩
theorem ny {kd s:Int} {ms:List Mx} (hl:aL kd ms=false) (hms:∀ m,m∈ms->mS m) (hlen:ms.length<=1048576) {A:Option Addr} {cap:Nat} {F:List Nat} (w:World) (hx:RI (kE mxE) w A 1 cap [(kd,ms)] F) :
  Calls prog 124 #[.slice A 1 cap,.int .i64 s] w fun e w'=>e= .returned (.tuple #[.slice none 0 0,.int .i64 0])/\Below w.heap.size w w':=by
 have HC:=Qh (nC hl hms hlen w hx);clear hl hms hlen hx
 go_enter func124,ntmps124
 go_wp2_with fail
 refine HC.out.mono ?_;rintro e w2 ⟨rfl,hb⟩;go_wp2
 go_ret2
 exact⟨rfl,hb⟩
end
section
theorem OX.Dw {α:Type} {E:Elt α} {w wr w1:World} {base k c g cap' B:Nat} {T:TypeId} {A:Option Addr} {css:List (List Value)} {xs:List α} {F F1:List Nat} {ys:List Value} {x:α} (h:OX E wr base T A k c css xs F) (hx:E.P wr ys x F1) (hf:Fr wr base F1) (hd:∀ g,g∈F1->g∉F/\blk A≠some g) (hb:Below B w wr) (hB:B<=base) (hbs:base<=wr.heap.size) (hBw:B<=w.heap.size)
  (hown:w1.ownsRow base T E.s (.slice (some ⟨g,0,none⟩) (k+1) cap') (k+1) (css.flatten++ys)) (hg:wr.grownBy w1 (Value.slice A k c).ownBlock)
  (hat:(Value.slice A k c).ownBlock=some g\/g=wr.heap.size) :
  OX E w1 base T (some ⟨g,0,none⟩) (k+1) cap' (css++[ys]) (xs++[x]) (F++F1)/\Below B w w1/\bJ A wr w1:=by
 rw[aO] at hg hat;have v3:bJ A wr w1:=hg;have v4:blk A=some g\/wr.heap.size<=g:=hat.imp id (fun e=>by omega)
 have hk:∀ g',g'<wr.heap.size->blk A≠some g'->w1.heap[g']?=wr.heap[g']?:=fun g' hl hne=>v3.block g' hl (fun e=>hne e.symm)
 have hFA:∀ g',g'∈F->blk A≠some g':=fun g' hg' e=>h.2.2.2.2 g' e hg'
 refine⟨⟨by unfold VO;rw[List.flatten_append];simpa using hown,by rw[List.length_append,h.2.1];rfl,?_,?_,?_⟩,hb.grown hg (by have:=hb.size;omega) (fun g hg'=>Nat.le_trans hB (h.aj g hg').1),v3⟩
 ·exact(h.2.2.1.au fun g' hg'=>hk g' (h.lt g' hg') (hFA g' hg')).push (E.au _ _ _ _ _ hx fun g' hg'=>hk g' (E.lt _ _ _ _ hx g' hg') (hd g' hg').2)
 ·exact(h.2.2.2.1.au fun g' hg'=>hk g' (h.lt g' hg') (hFA g' hg')).app (hf.au fun g' hg'=>hk g' (hf.lt g' hg') (hd g' hg').2) (fun g' h1 h2=>(hd g' h2).1 h1)
 ·intro g' hg' hF;have e:g=g':=by simpa [blk] using hg'
  subst e;rcases v4 with h4|h4
  ·rcases List.mem_append.1 hF with hF|hF
   ·exact hFA g hF h4
   ·exact(hd g hF).2 h4
  ·rcases List.mem_append.1 hF with hF|hF
   ·have:=h.lt g hF;omega
   ·have:=hf.lt g hF;omega
def ApI (t T:TypeId) (s:Nat):Prop:=∃ (i:TypeInfo) (z:Value) (bytes:Nat),prog.underlying t=some (.slice T)/\prog.info? T=some i/\i.zero=some z/\i.size=s/\i.bytes=bytes/\z.cells.size=s/\0<s/\bytes<=1000
theorem apM:ApI 69 37 3:=by obtain⟨i0,hi,hz0,hz1,hz2⟩:=info_parts rI;exact⟨i0,_,_,underlying69,hi,hz0,hz1,hz2,rfl,by decide,by decide⟩
theorem Cx:ApI 97 82 6:=by obtain⟨i0,hi,hz0,hz1,hz2⟩:=info_parts lq;exact⟨i0,_,_,underlying97,hi,hz0,hz1,hz2,rfl,by decide,by decide⟩
theorem zY:ApI 23 99 2:=by obtain⟨i0,hi,hz0,hz1,hz2⟩:=info_parts nJ;exact⟨i0,_,_,underlying23,hi,hz0,hz1,hz2,rfl,by decide,by decide⟩
section
variable {α:Type} {E:Elt α} {t T t':TypeId} {w w' w0 u:World} {L M:List Ow} {c d:Ow} {b n k q g g0 h0 cap:Nat} {A:Option Addr} {css:List (List Value)} {xs:List α} {F F1:List Nat} {cs ds:List Value} {x:α} {o:Oper} {a:Act} {R:Value->World->Prop} {S:World->Prop} {gs:List Nat}
theorem jv (I:ApI t T E.s) (ty:TypeId) (hC:OX E w b T A n k css xs F) (hB:Blk w g0 T cs.toArray) (hl:cs.length=E.s) (h1:∀ v,v∈cs->v.oneCell'=true) (hn:n<=1000000) (hb:b<=w.heap.size) :
  ∃ g cap w',(Builtin.append_ #[t,t] ty #[.slice A n k,.slice (some ⟨g0,0,none⟩) 1 q]).run prog w= .ok (.slice (some ⟨g,0,none⟩) (n+1) cap) w'/\w'.ownsRow b T E.s (.slice (some ⟨g,0,none⟩) (n+1) cap) (n+1) (css.flatten++cs)/\w.grownBy w' (Value.slice A n k).ownBlock/\((Value.slice A n k).ownBlock=some g\/g=w.heap.size):=by
 obtain⟨i,z,bytes,k1,k2,k3,k4,k5,k6,k7,k8⟩:=I;obtain⟨g,cap,w',hr,r1,r2,r3,_⟩:=run_append_lies (P:=prog) w t ty b T i z E.s bytes k1 k2 k3 k4 k5 k6 k7 (.slice A n k) n _ hC.1 ⟨g0,0,none⟩ 1 q cs (by omega) (fun j u hu=>World.news_of_block (show w.heap[g0]?=some (.cells cs.toArray T) from hB) j u (by simpa using hu)) h1
  (by omega) (by unfold maxLen;omega) (Nat.le_trans (Nat.mul_le_mul (show n+1<=1000001 by omega) k8) (by omega)) hb w.heap.size rfl
 exact⟨g,cap,w',hr,r1,r2,r3⟩
theorem Hq.apx (H:Hq w0 (qX E w0.heap.size T A n k css xs F::d::L) w) (hx:E.P w cs x F1) (hf:Fr w w0.heap.size F1) (hF:∀ i,i∈F1->d.F i)
  (hown:w'.ownsRow w0.heap.size T E.s (.slice (some ⟨g,0,none⟩) (n+1) cap) (n+1) (css.flatten++cs)) (hg:w.grownBy w' (Value.slice A n k).ownBlock) (hat:(Value.slice A n k).ownBlock=some g\/g=w.heap.size):Hq w0 (qX E w0.heap.size T (some ⟨g,0,none⟩) (n+1) cap (css++[cs]) (xs++[x]) (F++F1)::L) w':=by
 have hO:OX E w w0.heap.size T A n k css xs F:=H.S.1;have hd:∀ i,i∈F1->i∉F/\blk A≠some i:=fun i hi=>⟨fun h=>H.S.2.1 i (.inr h) d (List.mem_cons_self ..) (hF i hi),fun h=>H.S.2.1 i (.inl h) d (List.mem_cons_self ..) (hF i hi)⟩
 obtain⟨k1,k2,k3⟩:=OX.Dw hO hx hf hd H.O Ql H.m Ql hown hg hat;rw[aO] at hat;refine⟨⟨k1,fun i hi e he hei=>?_,H.S.2.2.2.2.au k3.size fun e he i hi hl=>k3.block i hl fun h=>H.S.2.1 i (.inl h.symm) e (List.mem_cons_of_mem _ he) hi⟩,fun e he i hi=>?_,k2⟩
 ·rcases hi with hi|hi
  ·have e1:g=i:=by simpa [blk] using hi
   subst e1;rcases hat with h|h
   ·exact H.S.2.1 g (.inl h) e (List.mem_cons_of_mem _ he) hei
   ·have:=H.S.lt e (List.mem_cons_of_mem _ (List.mem_cons_of_mem _ he)) g hei;omega
  ·rcases List.mem_append.1 hi with hi|hi
   ·exact H.S.2.1 i (.inr hi) e (List.mem_cons_of_mem _ he) hei
   ·exact H.S.2.2.2.1 i (hF i hi) e he hei
 ·rcases List.mem_cons.1 he with rfl|he
  ·rcases hi with hi|hi
   ·exact(k1.aj i hi).1
   ·exact(k1.2.2.2.1.2 i hi).1
  ·exact H.tl.tl.B e he i hi
theorem Hr.apx (Z:Hr S u gs w0 (qX E w0.heap.size T A n k css xs F::d::L) w) (hx:E.P w cs x F1) (hf:Fr w w0.heap.size F1) (hF:∀ i,i∈F1->d.F i)
  (hown:w'.ownsRow w0.heap.size T E.s (.slice (some ⟨g,0,none⟩) (n+1) cap) (n+1) (css.flatten++cs)) (hg:w.grownBy w' (Value.slice A n k).ownBlock) (hat:(Value.slice A n k).ownBlock=some g\/g=w.heap.size) (hn:∀ i,i∈gs->blk A≠some i):Hr S u gs w0 (qX E w0.heap.size T (some ⟨g,0,none⟩) (n+1) cap (css++[cs]) (xs++[x]) (F++F1)::L) w' :=
 ⟨Z.H.apx hx hf hF hown hg hat,Z.cl,Z.cl.up _ _ (fun i=>blk A=some i) (UpL.bR (A:=A) UpL.refl (by unfold bJ;rw[<-aO A n k];exact hg) (fun _ _ e=>e)) (fun i hi e=>hn i hi e) Z.s⟩
theorem Hq.nbx (H:Hq w0 (qX E b T A n k css xs F::L) w) (m:Has L (qB h0 t' ds)):blk A≠some h0:=fun e=>H.S.2.1 h0 (.inl e) _ m.mem rfl
theorem Hq.nex (H:Hq w0 (qX E b T A n k css xs F::L) w) (h:h0<w0.heap.size):blk A≠some h0:=fun e=>Nat.not_lt.2 (H.B (qX E b T A n k css xs F) (List.mem_cons_self ..) _ (.inl e)) h
theorem mu (I:ApI t T E.s) (s y:Operand) (ho:o.op= .call { callee:= .builtin .append,args:=#[s,y],argTypes:=#[t,t] }) (hs:a.eval s= .slice A n k) (hy:a.eval y= .slice (some ⟨g0,0,none⟩) 1 q) (Z:Hr S u gs w0 (qX E w0.heap.size T A n k css xs F::d::L) w) (hB:Blk w g0 T cs.toArray)
  (hx:E.P w cs x F1) (hf:Fr w w0.heap.size F1) (hF:∀ i,i∈F1->d.F i) (h1:∀ v,v∈cs->v.oneCell'=true) (hn:n<=1000000) (hgs:∀ i,i∈gs->blk A≠some i)
  (h:∀ g cap w',Hr S u gs w0 (qX E w0.heap.size T (some ⟨g,0,none⟩) (n+1) cap (css++[cs]) (xs++[x]) (F++F1)::L) w'->R (.slice (some ⟨g,0,none⟩) (n+1) cap) w'):Oper.gives prog o a w R:=by
 obtain⟨g,cap,w',hr,r1,r2,r3⟩:=jv (q:=q) I o.type Z.H.S.1 hB (E.len _ _ _ _ hx) h1 hn Z.H.m;unfold Oper.gives execOp;simp only[ho,resolve,invoke,builtin,Sem.run_bind,Sem.run_pure,Result.andThen_ok,List.map_toArray,List.map_cons,List.map_nil,hs,hy,hr]
 exact h g cap w' (Z.apx hx hf hF r1 r2 r3 hgs)
theorem lU {ops:Array Oper} {rest:List Oper} {Q:Exit->Act->World->Prop} (hgd:o.guard=none) (I:ApI t T E.s) (s y:Operand) (ho:o.op= .call { callee:= .builtin .append,args:=#[s,y],argTypes:=#[t,t] }) (hs:a.eval s= .slice A n k) (hy:a.eval y= .slice (some ⟨g0,0,none⟩) 1 q) (Z:Hq w0 (qX E w0.heap.size T A n k css xs F::d::L) w) (hB:Blk w g0 T cs.toArray)
  (hx:E.P w cs x F1) (hf:Fr w w0.heap.size F1) (hF:∀ i,i∈F1->d.F i) (h1:∀ v,v∈cs->v.oneCell'=true) (hn:n<=1000000)
  (h:∀ g cap w',Hq w0 (qX E w0.heap.size T (some ⟨g,0,none⟩) (n+1) cap (css++[cs]) (xs++[x]) (F++F1)::L) w'->wpList prog ops Q rest (a.put o.dst (.slice (some ⟨g,0,none⟩) (n+1) cap)) w'):wpList prog ops Q (o::rest) a w :=
 wpList_plain hgd fun _ hK=>by
  obtain⟨g,cap,w',hr,r1,r2,r3⟩:=jv (q:=q) I o.type Z.S.1 hB (E.len _ _ _ _ hx) h1 hn Z.m;unfold Oper.wp execOp;simp only[ho,resolve,invoke,builtin,Sem.run_bind,Sem.run_pure,Result.andThen_ok,List.map_toArray,List.map_cons,List.map_nil,hs,hy,hr]
  exact hK _ _ (h g cap w' (Z.apx hx hf hF r1 r2 r3))
theorem Hq.mrg (H:Hq w0 (c::d::L) w):Hq w0 (c.and d::L) w:=by
 refine⟨⟨⟨H.S.1,H.S.2.2.1⟩,fun i hi e he=>hi.elim (fun h=>H.S.2.1 i h e (List.mem_cons_of_mem _ he)) (fun h=>H.S.2.2.2.1 i h e he),H.S.2.2.2.2⟩,fun e he i hi=>?_,H.O⟩
 rcases List.mem_cons.1 he with rfl|he
 ·exact hi.elim (H.B c (List.mem_cons_self ..) i) (H.B d (List.mem_cons_of_mem _ (List.mem_cons_self ..)) i)
 ·exact H.tl.tl.B e he i hi
theorem Hr.mrg (Z:Hr S u gs w0 (c::d::L) w):Hr S u gs w0 (c.and d::L) w:=Z.re Hq.mrg
theorem Hq.ye (H:Hq w0 L w) (E:Elt α) (T:TypeId):Hq w0 (qX E w0.heap.size T none 0 0 [] [] []::L) w:=H.add Qb _ (OX.nil w _ T) fun i hi=>hi.elim (fun e=>by cases e) (fun e=>by cases e)
theorem Hr.ye (Z:Hr S u gs w0 L w) (E:Elt α) (T:TypeId):Hr S u gs w0 (qX E w0.heap.size T none 0 0 [] [] []::L) w:=Z.re fun H=>H.ye E T
theorem Hq.bsX (H:Hq w0 L w) (E:Elt α) (hg:w.heap.size=g):Hq w0 (qX E w0.heap.size T (some ⟨g,0,none⟩) 0 0 [] [] []::L) (w.alloc (.cells #[] T)):=by
 subst hg
 exact H.add (Qb.alloc Ql _) _ (OX.kG w H.m T) fun i hi=>hi.elim (fun e=>by simp[blk] at e;omega) (fun e=>by cases e)
theorem OX.rf (h:OX E w b T A n k css xs F) (hT:T≠25:=by decide):∃ F',RI E w A n k xs F'/\Fr w b F'/\∀ i,i∈F'->blk A=some i\/i∈F:=by
 obtain⟨h1,h2,h3,h4,h5⟩:=h;have hc:=h1.dC
 by_cases hn:n=0
 ·subst hn;have:xs=[]:=List.eq_nil_of_length_eq_zero h2;subst this
  exact⟨[],⟨rfl,Nat.zero_le _,hc.2,.inl ⟨rfl,rfl⟩⟩,Fr.nil w b,fun _ hi=>(by cases hi)⟩
 ·obtain⟨g,rfl,hb,hg⟩:=h1.pos (by omega)
  obtain⟨cs,hblk⟩:∃ cs,Blk w g T cs:=by
   rcases h1.2 with⟨e,e'⟩|⟨g',c',cur,e,_,hh,_⟩
   ·omega
   ·injection e with e1;injection e1 with e1;injection e1 with e1;subst e1
    exact⟨_,hh⟩
  refine⟨g::F,⟨h2,hc.1,hc.2,.inr ⟨g,0,css,F,rfl,hg,rfl,h3,fun i cs hi j hj=>?_⟩⟩,Fr.cons hblk hb h4 (h5 g rfl) hT,fun i hi=>(List.mem_cons.1 hi).imp (fun e=>by rw[e];rfl) id⟩
  have hil:i<n:=by
   have:=(List.getElem?_eq_some_iff.1 hi).1;rw[h3.length,h2] at this
   exact this
  have hlt:i*E.s+j<n*E.s:=by
   have:(i+1)*E.s<=n*E.s:=Nat.mul_le_mul_right _ hil;rw[Nat.succ_mul] at this
   omega
  rw[Nat.zero_add,h1.cell _ hlt];have:=iG (rest:=[]) h3.lens i cs hi j hj
  rwa [List.append_nil] at this
end
theorem yX {P Q T0:Prop} (c:T0) (k:Q) (h:T0->Wr Q->P:=by
  intro c q;intros
  repeat (first|(refine lc' ?_;intro K hK;go_big_quiet_op;go_big_quiet_on)|refine lk' ?_)
  refine lo' fun K hK=>?_
  refine mu c.1 _ _ rfl rfl rfl H (Has.blk H.H (by repeat (with_reducible first|exact Has.h0|apply Has.t0))) c.2.1 c.2.2.1 c.2.2.2 (by simp[Value.oneCell']) (by omega) (by repeat (first|exact all_nil|refine all_cons (by first|assumption|exact Hq.nbx H.H (by repeat (with_reducible first|exact Has.h0|apply Has.t0))|exact Hq.nex H.H (by assumption)) ?_)) ?_
  intro g k w' Hn
  (try clear H)
  go_simp
  refine ly' Hn hK ?_;clear hK K c
  repeat (revert ‹Act->World->Prop›;have zz:=q;clear zz)
  revert g k w' Hn
  exact q.o):P:=h c ⟨k⟩
theorem zAx {P Q T0:Prop} (c:T0) (k:Q) (h:T0->Wr Q->P:=by
  intro c q;intros;refine lU rfl c.1 _ _ rfl rfl rfl H (Has.blk H (by repeat (with_reducible first|exact Has.h0|apply Has.t0))) c.2.1 c.2.2.1 c.2.2.2 (by simp[Value.oneCell']) (by omega) ?_
  intro g k w' Hn
  (try clear H)
  clear c
  repeat (revert ‹Act->World->Prop›;have zz:=q;clear zz)
  revert g k w' Hn
  exact q.o):P:=h c ⟨k⟩
abbrev qV (w:World) (A:Option Addr) (F:List Nat):Ow:=qT (fun i=>i<w.heap.size/\¬(blk A=some i\/i∈F)) (fun w'=>w.heap.size<=w'.heap.size/\∀ i,i<w.heap.size->¬(blk A=some i\/i∈F)->w'.heap[i]?=w.heap[i]?) (fun w' h i e=>Nat.lt_of_lt_of_le e.1 h.1)
 (fun w' w'' h hs k=>⟨Nat.le_trans h.1 hs,fun i hi hn=>(k i ⟨hi,hn⟩ (Nat.lt_of_lt_of_le hi h.1)).trans (h.2 i hi hn)⟩)
section
variable {α:Type} {E:Elt α} {T:TypeId} {w w' w0:World} {L:List Ow} {c:Ow} {b n k n' k' g:Nat} {A A':Option Addr} {css css':List (List Value)} {xs xs':List α} {F F':List Nat} {cs:List Value} {x:α} {G:Nat->Prop}
theorem OX.reb {b':Nat} (h:OX E w b T A n k css xs F) (hb:∀ i,blk A=some i\/i∈F->b'<=i):OX E w b' T A n k css xs F:=by
 obtain⟨h1,h2,h3,h4,h5⟩:=h;refine⟨⟨h1.1,?_⟩,h2,h3,⟨h4.1,fun g hg=>⟨hb g (.inr hg),(h4.2 g hg).2⟩⟩,h5⟩
 rcases h1.2 with e|⟨g,c',cur,e,_,rest⟩
 ·exact .inl e
 ·refine .inr ⟨g,c',cur,e,hb g (.inl ?_),rest⟩;injection e with e;rw[e];rfl
theorem Hq.rs0 (h:OX E w b T A n k css xs F):Hq (fI w) [qX E (fI w).heap.size T A n k css xs F,qV w A F] w :=
 ⟨⟨h.mono (Nat.zero_le _),fun i hi d hd hdi=>by
  obtain rfl:d=qV w A F:=by simpa using hd
  exact hdi.2 hi,⟨Nat.le_refl _,fun _ _ _=>rfl⟩,fun i hi d hd=>(by cases hd),trivial⟩,fun _ _ _ _=>Nat.zero_le _,pd w⟩
theorem Hq.rsX (h:OX E w b T A n k css xs F) (hb:b<=w.heap.size) (K:Hq (fI w) [qX E (fI w).heap.size T A' n' k' css' xs' F',qV w A F] w'):OX E w' b T A' n' k' css' xs' F'/\UpL (fun i=>blk A=some i\/i∈F) w w':=by
 refine⟨OX.reb (K.S.1) fun i hi=>?_,⟨K.O.os,K.O.tape,K.O.output,K.S.2.2.1.1,K.S.2.2.1.2⟩⟩
 by_cases hw:i<w.heap.size
 ·have hn:=K.S.2.1 i hi _ (List.mem_cons_self ..);have:=Classical.byContradiction fun e=>hn ⟨hw,e⟩
  rcases this with e|e
  ·exact(h.aj i e).1
  ·exact(h.2.2.2.1.2 i e).1
 ·omega
theorem OX.one (h:OX E w b T A n k css [x] F):∃ cs g,css=[cs]/\A=some ⟨g,0,none⟩/\n=1/\E.P w cs x F/\Fr w b F/\(∀ j,j<E.s->w.cell? ⟨g,j,none⟩=cs[j]?)/\g<w.heap.size:=by
 obtain⟨h1,h2,h3,h4,h5⟩:=h;have hn:n=1:=h2.symm;subst hn
 match css,h3 with
 | [],h3=>cases h3
 | _::_::_,⟨_,_,_,_,h3⟩=>cases h3
 | [cs],⟨F1,F2,e,hp,h3⟩ =>
  have h3:F2=[]:=h3;subst h3;rw[List.append_nil] at e;subst e;obtain⟨g,rfl,_,hg⟩:=h1.pos (by omega)
  refine⟨cs,g,rfl,rfl,rfl,hp,h4,fun j hj=>?_,hg⟩
  have:=h1.cell j (by omega)
  rwa [List.flatten_cons,List.flatten_nil,List.append_nil] at this
theorem OX.ft (h:OX E w b T (some ⟨g,0,none⟩) n k [cs] [x] F):E.P w cs x F/\Fr w b F/\(∀ j,j<E.s->w.cell? ⟨g,j,none⟩=cs[j]?)/\g<w.heap.size:=by
 obtain⟨cs',g',e,e2,_,h1,h2,h3,h4⟩:=h.one;injection e with e;subst e;injection e2 with e2;injection e2 with e2;subst e2
 exact⟨h1,h2,h3,h4⟩
theorem UpL.imp {G':Nat->Prop} (h:UpL G w w') (k:∀ i,G i->G' i):UpL G' w w':=⟨h.os,h.tape,h.output,h.size,fun i hi hn=>h.block i hi fun e=>hn (k i e)⟩
theorem Hq.ul (H:Hq w0 (c::L) w) (U:UpL G w w') (hG:∀ i,G i->c.F i):Hq w0 L w' :=
 ⟨H.S.2.2.au U.size fun d hd i hi hl=>U.block i hl fun e=>H.S.2.1 i (hG i e) d hd hi,fun d hd=>H.B d (List.mem_cons_of_mem _ hd),U.over H.O (fun i _ hi=>H.B c (List.mem_cons_self ..) i (hG i hi)) H.m⟩
end
theorem Sp.get' {w:World} {d:Ow}:∀ {L:List Ow},Sp L w->d∈L->d.P w
 | _::_,s,h=>by
  rcases List.mem_cons.1 h with rfl|h
  ·exact s.1
  ·exact s.2.2.get' h
theorem OX.nsv {α:Type} {E:Elt α} {w:World} {b:Nat} {T:TypeId} {A:Option Addr} {n k i:Nat} {css:List (List Value)} {xs:List α} {F:List Nat} {cs:Array Value} (h:OX E w b T A n k css xs F) (hb:Blk w i 25 cs) (hT:T≠25):¬blk A=some i:=h.1.gu hb hT
theorem OX.fr {α:Type} {E:Elt α} {w:World} {b:Nat} {T:TypeId} {A:Option Addr} {n k:Nat} {css:List (List Value)} {xs:List α} {F:List Nat} (h:OX E w b T A n k css xs F):Fr w b F:=h.2.2.2.1
def Ow.Nv (d:Ow):Prop:=∀ w,d.P w->∀ i,d.F i->∀ cs,¬Blk w i 25 cs
theorem nvX {α:Type} {E:Elt α} {b:Nat} {T:TypeId} {A:Option Addr} {n k:Nat} {css:List (List Value)} {xs:List α} {F:List Nat} (hT:T≠25:=by decide):(qX E b T A n k css xs F).Nv:=fun w h i hi cs hb=>hi.elim (fun e=>OX.nsv h hb hT e) (fun e=>Fr.zi (OX.fr h) hb e)
theorem nvR {α:Type} {E:Elt α} {b:Nat} {A:Option Addr} {n k:Nat} {xs:List α} {F:List Nat}:(qR E b A n k xs F).Nv:=fun w h i hi cs hb=>Fr.zi h.2 hb hi
theorem nvT {d:Ow} (h:d.Ty):d.Nv:=fun w hp i hi cs hb=>absurd (h w hp i hi _ _ hb) (by decide)
inductive Zv:List Ow->List Ow->Prop
 | z0 {L:List Ow}:Zv L L
 | s0 {c:Ow} {L M:List Ow}:c.Nv->Zv L M->Zv (c::L) M
section
variable {S:World->Prop} {u w w' w0:World} {gs:List Nat} {L L0:List Ow} {c:Ow} {g:Nat} {cs:List Value} {G:Nat->Prop}
theorem Hr.zv (E:Elq u w0 L0) (hb:Below w.heap.size w w') (hg:u.heap.size<=g) (hG:Blk w' g 25 cs.toArray):∀ {L:List Ow},Zv L L0->Hr S u gs w0 L w->Hr S u gs w0 (qB g 25 cs::L) w'
 | _,.z0,Z=>Z.z E hb hg hG
 | _,.s0 hd k,Z=>by
  have K:=Hr.zv E hb hg hG k (Z.re Hq.tl);have h:=Z.b hb;refine⟨⟨⟨K.H.S.1,fun i hi e he hei=>?_,h.H.S⟩,fun e he i hi=>?_,h.H.O⟩,h.cl,h.s⟩
  ·rcases List.mem_cons.1 he with rfl|he
   ·exact hd w' h.H.S.1 i hei _ (by have e:i=g:=hi;rw[e];exact K.H.S.1)
   ·exact K.H.S.2.1 i hi e he hei
  ·rcases List.mem_cons.1 he with rfl|he
   ·exact K.H.B _ (List.mem_cons_self ..) i hi
   ·exact h.H.B e he i hi
theorem Hr.ul (Z:Hr S u gs w0 (c::L) w) (U:UpL G w w') (hG:∀ i,G i->c.F i) (hn:∀ i,i∈gs->¬G i):Hr S u gs w0 L w':=⟨Z.H.ul U hG,Z.cl,Z.cl.up _ _ G U hn Z.s⟩
inductive Svs:List Ow->Prop
 | z0:Svs []
 | s0 {g:Nat} {cs:List Value} {L:List Ow}:Svs L->Svs (qB g 25 cs::L)
theorem Svs.at:∀ {L:List Ow},Svs L->∀ d,d∈L->∃ g cs,d=qB g 25 cs
 | _,.s0 k,d,hd=>by
  rcases List.mem_cons.1 hd with rfl|hd
  ·exact⟨_,_,rfl⟩
  ·exact k.at d hd
theorem Hq.adV {α:Type} {E:Elt α} {T:TypeId} {A:Option Addr} {n k:Nat} {css:List (List Value)} {xs:List α} {F:List Nat} (H:Hq w0 L w) (h:OX E w w0.heap.size T A n k css xs F) (s:Svs L:=by repeat constructor) (hT:T≠25:=by decide):Hq w0 (qX E w0.heap.size T A n k css xs F::L) w :=
 ⟨⟨h,fun i hi d hd hdi=>by
  obtain⟨g,cs,rfl⟩:=s.at d hd;have e:i=g:=hdi;subst e
  exact nvX hT w h i hi _ (H.S.get' hd),H.S⟩,fun d hd i hi=>by
  rcases List.mem_cons.1 hd with rfl|hd
  ·exact hi.elim (fun e=>(h.aj i e).1) (fun e=>(h.2.2.2.1.2 i e).1)
  ·exact H.B d hd i hi,H.O⟩
theorem Hr.adV {α:Type} {E:Elt α} {T:TypeId} {A:Option Addr} {n k:Nat} {css:List (List Value)} {xs:List α} {F:List Nat} (Z:Hr S u gs w0 L w) (h:OX E w w0.heap.size T A n k css xs F) (s:Svs L:=by repeat constructor) (hT:T≠25:=by decide):Hr S u gs w0 (qX E w0.heap.size T A n k css xs F::L) w:=Z.re fun H=>H.adV h s hT
end
theorem yGv {P Q:Prop} (k:Q) (h:Wr Q->P:=by
  intro q;intros
  repeat (first|(refine lE ?_;intro K hK;go_big_quiet_op;go_big_quiet_on)|refine lG ?_)
  refine kZ (by decide) ?_
  intro w' g hb hg hG hC K hK
  (try replace X5:=OX.below X5 hb)
  replace H:=Hr.zv E hb hg hG (by repeat (first|exact Zv.z0|refine Zv.s0 (by first|exact nvT qtO|exact nvX|exact nvR) ?_)) H
  go_simp
  refine hK _ ?_;clear hK K hb hG hC
  repeat (revert ‹Act->World->Prop›;have zz:=q;clear zz)
  revert w' g hg H
  exact q.o):P:=h ⟨k⟩
end
end Go.Proofs.YtjciicheoghcdaaGreatDoor
