/- A part of the proof; each theorem states its conditions. -/
import Derived.Test.YtglilddlhibogaaGreatDoorPlays4
set_option linter.unusedSimpArgs false
set_option linter.unusedVariables false
set_option maxRecDepth 100000
set_option maxHeartbeats 100000000
namespace Go.Proofs.YtglilddlhibogaaGreatDoor.W
open Go.RowKit Go.Proofs.YtglilddlhibogaaGreatDoor.P
structure uQ where
 what:Int
 hook:Int
 id:Int
 rank:Int
 oa:Option Addr
 cap:Nat
 L:List Step
 told:Nat→Int
def uQ.cells(x:uQ):List Value:=[aU x.what,aU x.hook,aU x.id,aU x.rank,.slice x.oa x.L.length x.cap]++t8 x.told
structure uQ.Ok(w:World)(x:uQ):Prop where
 cap:x.L.length≤x.cap
 at_:xY w x.oa (nth x.L) x.L.length
 in_:∀ j,j<x.L.length→In64 (nth x.L j).off∧In64 (nth x.L j).num
 max:x.L.length≤maxLen
 id:In64 x.id
 told:∀ r,In64 (x.told r)
def Oa(w:World)(b:Nat)(x:uQ):Prop:=w.heap[b]?=some (Obj.cells x.cells.toArray 36 (0,0))
theorem Oa.kept{w w':World}{b:Nat}{x:uQ}(h:Oa w b x)(hk:Kept w w'):Oa w' b x:=hk b _ _ aNq h
theorem Oa.later{w w':World}{b:Nat}{x:uQ}(h:Oa w b x)(hb:Below w.heap.size w w'):Oa w' b x:=h.kept (Kept.of hb)
theorem AQ{w:World}{b:Nat}{x:uQ}(h:Oa w b x):w.cell? ⟨b,0,none⟩=some (aU x.what)∧w.cell? ⟨b,1,none⟩=some (aU x.hook)∧w.cell? ⟨b,2,none⟩=some (aU x.id)∧w.cell? ⟨b,3,none⟩=some (aU x.rank)∧w.cell? ⟨b,4,none⟩=some (.slice x.oa x.L.length x.cap) ∧
  w.cell? ⟨b,5,none⟩=some (aU (x.told 0))∧w.cell? ⟨b,6,none⟩=some (aU (x.told 1))∧w.cell? ⟨b,7,none⟩=some (aU (x.told 2))∧w.cell? ⟨b,8,none⟩=some (aU (x.told 3))∧w.cell? ⟨b,9,none⟩=some (aU (x.told 4))∧w.cell? ⟨b,10,none⟩=some (aU (x.told 5))∧w.cell? ⟨b,11,none⟩=some (aU (x.told 6))∧w.cell? ⟨b,12,none⟩=some (aU (x.told 7)):=by
 have hc:∀ j,w.cell? ⟨b,j,none⟩=x.cells[j]?:=fun j=>(cell_of_row w b j _ _ (0,0) h).trans dY;exact⟨hc 0,hc 1,hc 2,hc 3,hc 4,hc 5,hc 6,hc 7,hc 8,hc 9,hc 10,hc 11,hc 12⟩
theorem aLe{w0 w:World}{D R:Nat}{Cs:Nat→Nat}{d:HD}{i:Nat}(h:gJ w0 D R Cs d d w)(hp:rP i d)(hi:i≤59)(x:uQ)(hx:x.Ok w0)(k:Nat)(hk:k<3)(hh:x.hook=k)(hw:x.what=1)(hg:vY w0)(ha:nH w0) :
  Calls Tryz.prog 8 #[.pointer (some ⟨D,0,none⟩),.pointer (some ⟨R,0,none⟩),.agg x.cells.toArray] w fun r w'=>r=.returned (.bool true)∧gJ w0 D R Cs (d.detach k x.id) (d.detach k x.id) w':=by
 obtain⟨what,hook,id,rank,oa,cap,L,told⟩:=x;simp only at hh hw;subst hh hw;obtain⟨hcap,hat,hin,hmx,hid,htold⟩:=hx;simp only at hcap hat hin hmx hid htold;refine aeQ ?_;intro H0 HP HAT Oz HID HTO HG HA hnx UM k0 k2 k3;clear h hp hat hin hid htold hg ha hnx hmx;unfold uQ.cells t8;go_enter Tryz.func8,Tryz.ntmps8;go_upto_region 1 with fail;refine ac7 ?_;intro w1 hW CP;have ZA:=bW (show Oa w1 w.heap.size ⟨1,k,id,rank,oa,cap,L,told⟩from hW▸heap_alloc_new w _);refine afW ?_;intro HZ1;clear hW H0;refine adg ?_;intro x0 x1 x2 x3 x4 x5 x6 x7 x8 x9 x10 x11 x12;go_wp2_with fail;refine(CP.out.chain hk).mono ?_;rintro e w2 ⟨rfl,rfl⟩;obtain⟨rc,-,-,-⟩:=CP.out.reads hk;go_upto_region 6 with fail;go_cut [9] (fun y W=>y=.pointer (some ⟨Cs k,0,none⟩)∧Below w2.heap.size w2 W)
 case first =>
  exact adJ
 case rest =>
 obtain⟨rfl,hcut⟩:=hcut;obtain⟨w3,hw3⟩:∃ x,x=wc:=⟨_,rfl⟩;subst hw3;refine afU ?_;intro KF CU;clear hcut rc x0 x1 x2 x3 x4 x5 x6 x7 x8 x9 x10 x11 x12;have S3:=AQ CU.out;simp only at S3;go_upto_region 13 with fail;go_region_held3 (fun W=>W.cell? ⟨w.heap.size,0,none⟩=some (aU 1)∧W.cell? ⟨w.heap.size,1,none⟩=some (aU k)∧W.cell? ⟨w.heap.size,2,none⟩=some (aU id)∧W.cell? ⟨w.heap.size,3,none⟩=some (aU rank)∧W.cell? ⟨w.heap.size,4,none⟩=some (.slice oa L.length cap)∧W.cell? ⟨w.heap.size,5,none⟩=some (aU (told 0))∧W.cell? ⟨w.heap.size,6,none⟩=some (aU (told 1))∧W.cell? ⟨w.heap.size,7,none⟩=some (aU (told 2))∧W.cell? ⟨w.heap.size,8,none⟩=some (aU (told 3))∧W.cell? ⟨w.heap.size,9,none⟩=some (aU (told 4))∧W.cell? ⟨w.heap.size,10,none⟩=some (aU (told 5))∧W.cell? ⟨w.heap.size,11,none⟩=some (aU (told 6))∧W.cell? ⟨w.heap.size,12,none⟩=some (aU (told 7)))
  (first|exact AQ CU.out|exact AQ TQ.out|exact AQ VI.out|exact AQ HX6.out)
  (first
   |(go_at_call 22;refine(gJ.detach (KF.out.later ?_) hk id).mono ?_;(repeat' (first|with_reducible exact Below.refl _ _|with_reducible refine Below.drew ?_|with_reducible refine Below.alloc ?_ ?_ _|with_reducible refine Below.setCell ?_ ?_ _|(simp;done)|(simp;omega)));rintro e w4 ⟨⟨er,rfl,he⟩,NK,hk4⟩;have HE4:=bW he;have TT:=bW NK;have TQ:=bW (CU.out.kept hk4);clear he NK hk4)
   |(go_at_call 23;refine(gJ.aNt (TT.out.later ?_) hk (HP.out.ok k hk).ids (HP.out.ok k hk).short id).mono ?_;(repeat' (first|with_reducible exact Below.refl _ _|with_reducible refine Below.drew ?_|with_reducible refine Below.alloc ?_ ?_ _|with_reducible refine Below.setCell ?_ ?_ _|(simp;done)|(simp;omega)));rintro e w5 ⟨rfl,⟨TU,hk5⟩,hb5⟩;have HE5:=bW (aD6 HE4.out hb5);have Ii:=bW TU;have VI:=bW (TQ.out.kept hk5);clear TU hk5 hb5)
   |(go_at_call 6;refine(ajA _ _ _ (HE5.out.later ?_) (HG.out.later (Ii.out.below.trans (Below.mono ?_ Ii.out.below.size)))).mono ?_;(repeat' (first|with_reducible exact Below.refl _ _|with_reducible refine Below.drew ?_|with_reducible refine Below.alloc ?_ ?_ _|with_reducible refine Below.setCell ?_ ?_ _|(simp;done)|(simp;omega)));rintro e w6 ⟨rfl,hb6⟩;have hb7:=Below.trans (B:=w5.heap.size) (a:=w5) apQ hb6;have Zy:=bW (Ii.out.later hb7);have HX6:=bW (VI.out.later hb7);clear hb6 hb7))
 exact arU
theorem aLf{w0 w:World}{D R:Nat}{Cs:Nat→Nat}{d:HD}{i:Nat}(h:gJ w0 D R Cs d d w)(hp:rP i d)(hi:i≤59)(x:uQ)(hx:x.Ok w0)(k:Nat)(hk:k<3)(hh:x.hook=k)(hw:x.what=2)(hg:vY w0)(ha:nH w0) :
  Calls Tryz.prog 8 #[.pointer (some ⟨D,0,none⟩),.pointer (some ⟨R,0,none⟩),.agg x.cells.toArray] w fun r w'=>r=.returned (.bool true)∧gJ w0 D R Cs (d.replace k x.id x.L) (d.replace k x.id x.L) w':=by
 obtain⟨what,hook,id,rank,oa,cap,L,told⟩:=x;simp only at hh hw;subst hh hw;obtain⟨hcap,hat,hin,hmx,hid,htold⟩:=hx;simp only at hcap hat hin hmx hid htold;refine aeQ ?_;intro H0 HP HAT Oz HID HTO HG HA hnx UM k0 k2 k3;clear h hp hat hin hid htold hg ha hnx hmx;unfold uQ.cells t8;go_enter Tryz.func8,Tryz.ntmps8;go_upto_region 1 with fail;refine ac7 ?_;intro w1 hW CP;have ZA:=bW (show Oa w1 w.heap.size ⟨2,k,id,rank,oa,cap,L,told⟩from hW▸heap_alloc_new w _);refine afW ?_;intro HZ1;clear hW H0;refine adg ?_;intro x0 x1 x2 x3 x4 x5 x6 x7 x8 x9 x10 x11 x12;go_wp2_with fail;refine(CP.out.chain hk).mono ?_;rintro e w2 ⟨rfl,rfl⟩;obtain⟨rc,-,-,-⟩:=CP.out.reads hk;go_upto_region 6 with fail;go_cut [9] (fun y W=>y=.pointer (some ⟨Cs k,0,none⟩)∧Below w2.heap.size w2 W)
 case first =>
  exact adJ
 case rest =>
 obtain⟨rfl,hcut⟩:=hcut;obtain⟨w3,hw3⟩:∃ x,x=wc:=⟨_,rfl⟩;subst hw3;refine afU ?_;intro KF CU;clear hcut rc x0 x1 x2 x3 x4 x5 x6 x7 x8 x9 x10 x11 x12;have S3:=AQ CU.out;simp only at S3;go_upto_region 15 with fail;go_region_held3 (fun W=>W.cell? ⟨w.heap.size,0,none⟩=some (aU 2)∧W.cell? ⟨w.heap.size,1,none⟩=some (aU k)∧W.cell? ⟨w.heap.size,2,none⟩=some (aU id)∧W.cell? ⟨w.heap.size,3,none⟩=some (aU rank)∧W.cell? ⟨w.heap.size,4,none⟩=some (.slice oa L.length cap)∧W.cell? ⟨w.heap.size,5,none⟩=some (aU (told 0))∧W.cell? ⟨w.heap.size,6,none⟩=some (aU (told 1))∧W.cell? ⟨w.heap.size,7,none⟩=some (aU (told 2))∧W.cell? ⟨w.heap.size,8,none⟩=some (aU (told 3))∧W.cell? ⟨w.heap.size,9,none⟩=some (aU (told 4))∧W.cell? ⟨w.heap.size,10,none⟩=some (aU (told 5))∧W.cell? ⟨w.heap.size,11,none⟩=some (aU (told 6))∧W.cell? ⟨w.heap.size,12,none⟩=some (aU (told 7)))
  (first|exact AQ CU.out|exact AQ TQ.out|exact AQ VI.out|exact AQ HX6.out)
  (first
   |(go_at_call 24;refine(gJ.replace (KF.out.later ?_) hk id hcap HAT.out Oz.out HG.out).mono ?_;(repeat' (first|with_reducible exact Below.refl _ _|with_reducible refine Below.drew ?_|with_reducible refine Below.alloc ?_ ?_ _|with_reducible refine Below.setCell ?_ ?_ _|(simp;done)|(simp;omega)));rintro e w4 ⟨⟨er,rfl,he⟩,NK,hk4⟩;have HE4:=bW he;have TT:=bW NK;have TQ:=bW (CU.out.kept hk4);clear he NK hk4)
   |(go_at_call 25;refine(gJ.aNu (TT.out.later ?_) hk (HP.out.ok k hk).short id hcap HAT.out Oz.out HA.out).mono ?_;(repeat' (first|with_reducible exact Below.refl _ _|with_reducible refine Below.drew ?_|with_reducible refine Below.alloc ?_ ?_ _|with_reducible refine Below.setCell ?_ ?_ _|(simp;done)|(simp;omega)));rintro e w5 ⟨rfl,⟨TU,hk5⟩,hb5⟩;have HE5:=bW (aD6 HE4.out hb5);have Ii:=bW TU;have VI:=bW (TQ.out.kept hk5);clear TU hk5 hb5)
   |(go_at_call 16;refine(is_same _ _ _ _ (HE5.out.later ?_) (HG.out.later (Ii.out.below.trans (Below.mono ?_ Ii.out.below.size)))).mono ?_;(repeat' (first|with_reducible exact Below.refl _ _|with_reducible refine Below.drew ?_|with_reducible refine Below.alloc ?_ ?_ _|with_reducible refine Below.setCell ?_ ?_ _|(simp;done)|(simp;omega)));rintro e w6 ⟨rfl,hb6⟩;have hb7:=Below.trans (B:=w5.heap.size) (a:=w5) apQ hb6;have Zy:=bW (Ii.out.later hb7);have HX6:=bW (VI.out.later hb7);clear hb6 hb7))
 exact arU
theorem aLg{w0 w:World}{D R:Nat}{Cs:Nat→Nat}{d:HD}{i:Nat}(h:gJ w0 D R Cs d d w)(hp:rP i d)(hi:i≤59)(x:uQ)(hx:x.Ok w0)(k:Nat)(hk:k<3)(hh:x.hook=k)(hw:x.what=3)(hg:vY w0)(ha:nH w0) :
  Calls Tryz.prog 8 #[.pointer (some ⟨D,0,none⟩),.pointer (some ⟨R,0,none⟩),.agg x.cells.toArray] w fun r w'=>r=.returned (.bool true)∧gJ w0 D R Cs (d.event k x.told) (d.event k x.told) w':=by
 obtain⟨what,hook,id,rank,oa,cap,L,told⟩:=x;simp only at hh hw;subst hh hw;obtain⟨hcap,hat,hin,hmx,hid,htold⟩:=hx;simp only at hcap hat hin hmx hid htold;refine aeQ ?_;intro H0 HP HAT Oz HID HTO HG HA hnx UM k0 k2 k3;clear h hp hat hin hid htold hg ha hnx hmx;unfold uQ.cells t8;go_enter Tryz.func8,Tryz.ntmps8;go_upto_region 1 with fail;refine ac7 ?_;intro w1 hW CP;have ZA:=bW (show Oa w1 w.heap.size ⟨3,k,id,rank,oa,cap,L,told⟩from hW▸heap_alloc_new w _);refine afW ?_;intro HZ1;clear hW H0;refine adg ?_;intro x0 x1 x2 x3 x4 x5 x6 x7 x8 x9 x10 x11 x12;go_wp2_with fail;refine(CP.out.chain hk).mono ?_;rintro e w2 ⟨rfl,rfl⟩;obtain⟨rc,-,-,-⟩:=CP.out.reads hk;go_upto_region 6 with fail;go_cut [9] (fun y W=>y=.pointer (some ⟨Cs k,0,none⟩)∧Below w2.heap.size w2 W)
 case first =>
  exact adJ
 case rest =>
 obtain⟨rfl,hcut⟩:=hcut;obtain⟨w3,hw3⟩:∃ x,x=wc:=⟨_,rfl⟩;subst hw3;refine afU ?_;intro KF CU;clear hcut rc x0 x1 x2 x3 x4 x5 x6 x7 x8 x9 x10 x11 x12;have S3:=AQ CU.out;simp only at S3;go_upto_region 17 with fail;go_region_held3 (fun W=>W.cell? ⟨w.heap.size,0,none⟩=some (aU 3)∧W.cell? ⟨w.heap.size,1,none⟩=some (aU k)∧W.cell? ⟨w.heap.size,2,none⟩=some (aU id)∧W.cell? ⟨w.heap.size,3,none⟩=some (aU rank)∧W.cell? ⟨w.heap.size,4,none⟩=some (.slice oa L.length cap)∧W.cell? ⟨w.heap.size,5,none⟩=some (aU (told 0))∧W.cell? ⟨w.heap.size,6,none⟩=some (aU (told 1))∧W.cell? ⟨w.heap.size,7,none⟩=some (aU (told 2))∧W.cell? ⟨w.heap.size,8,none⟩=some (aU (told 3))∧W.cell? ⟨w.heap.size,9,none⟩=some (aU (told 4))∧W.cell? ⟨w.heap.size,10,none⟩=some (aU (told 5))∧W.cell? ⟨w.heap.size,11,none⟩=some (aU (told 6))∧W.cell? ⟨w.heap.size,12,none⟩=some (aU (told 7)))
  (first|exact AQ CU.out|exact AQ TQ.out|exact AQ VI.out|exact AQ HX6.out)
  (first
   |(go_at_call 19;refine(gJ.event (KF.out.later ?_) hk told).mono ?_;(repeat' (first|with_reducible exact Below.refl _ _|with_reducible refine Below.drew ?_|with_reducible refine Below.alloc ?_ ?_ _|with_reducible refine Below.setCell ?_ ?_ _|(simp;done)|(simp;omega)));rintro e w4 ⟨⟨er,rfl,he⟩,NK,hk4⟩;have HE4:=bW he;have TT:=bW NK;have TQ:=bW (CU.out.kept hk4);clear he NK hk4)
   |(go_at_call 26;refine(gJ.aNv (TT.out.later ?_) hk told).mono ?_;(repeat' (first|with_reducible exact Below.refl _ _|with_reducible refine Below.drew ?_|with_reducible refine Below.alloc ?_ ?_ _|with_reducible refine Below.setCell ?_ ?_ _|(simp;done)|(simp;omega)));rintro e w5 ⟨rfl,TU,hk5⟩;have HE5:=HE4;have Ii:=bW TU;have VI:=bW (TQ.out.kept hk5);clear TU hk5)
   |(go_at_call 6;refine(ajA _ _ _ (HE5.out _) (HG.out.later (Ii.out.below.trans (Below.mono ?_ Ii.out.below.size)))).mono ?_;(repeat' (first|with_reducible exact Below.refl _ _|with_reducible refine Below.drew ?_|with_reducible refine Below.alloc ?_ ?_ _|with_reducible refine Below.setCell ?_ ?_ _|(simp;done)|(simp;omega)));rintro e w6 ⟨rfl,hb6⟩;have hb7:=Below.trans (B:=w5.heap.size) (a:=w5) apQ hb6;have Zy:=bW (Ii.out.later hb7);have HX6:=bW (VI.out.later hb7);clear hb6 hb7))
 exact arU
theorem aLi{w0 w:World}{D R:Nat}{Cs:Nat→Nat}{d:HD}{i:Nat}(h:gJ w0 D R Cs d d w)(hp:rP i d)(hi:i≤59)(x:uQ)(hx:x.Ok w0)(k:Nat)(hk:k<3)(hh:x.hook=k)(hw:x.what=5)(hg:vY w0)(ha:nH w0) :
  Calls Tryz.prog 8 #[.pointer (some ⟨D,0,none⟩),.pointer (some ⟨R,0,none⟩),.agg x.cells.toArray] w fun r w'=>r=.returned (.bool true)∧gJ w0 D R Cs (d.ran k x.told x.id) (d.ran k x.told x.id) w':=by
 obtain⟨what,hook,id,rank,oa,cap,L,told⟩:=x;simp only at hh hw;subst hh hw;obtain⟨hcap,hat,hin,hmx,hid,htold⟩:=hx;simp only at hcap hat hin hmx hid htold;refine aeQ ?_;intro H0 HP HAT Oz HID HTO HG HA hnx UM k0 k2 k3;clear h hp hat hin hid htold hg ha hnx hmx;unfold uQ.cells t8;go_enter Tryz.func8,Tryz.ntmps8;go_upto_region 1 with fail;refine ac7 ?_;intro w1 hW CP;have ZA:=bW (show Oa w1 w.heap.size ⟨5,k,id,rank,oa,cap,L,told⟩from hW▸heap_alloc_new w _);refine afW ?_;intro HZ1;clear hW H0;refine adg ?_;intro x0 x1 x2 x3 x4 x5 x6 x7 x8 x9 x10 x11 x12;go_wp2_with fail;refine(CP.out.chain hk).mono ?_;rintro e w2 ⟨rfl,rfl⟩;obtain⟨rc,-,-,-⟩:=CP.out.reads hk;go_upto_region 6 with fail;go_cut [9] (fun y W=>y=.pointer (some ⟨Cs k,0,none⟩)∧Below w2.heap.size w2 W)
 case first =>
  exact adJ
 case rest =>
 obtain⟨rfl,hcut⟩:=hcut;obtain⟨w3,hw3⟩:∃ x,x=wc:=⟨_,rfl⟩;subst hw3;refine afU ?_;intro KF CU;clear hcut rc x0 x1 x2 x3 x4 x5 x6 x7 x8 x9 x10 x11 x12;have S3:=AQ CU.out;simp only at S3;go_upto_region 28 with fail;go_region_held3 (fun W=>W.cell? ⟨w.heap.size,0,none⟩=some (aU 5)∧W.cell? ⟨w.heap.size,1,none⟩=some (aU k)∧W.cell? ⟨w.heap.size,2,none⟩=some (aU id)∧W.cell? ⟨w.heap.size,3,none⟩=some (aU rank)∧W.cell? ⟨w.heap.size,4,none⟩=some (.slice oa L.length cap)∧W.cell? ⟨w.heap.size,5,none⟩=some (aU (told 0))∧W.cell? ⟨w.heap.size,6,none⟩=some (aU (told 1))∧W.cell? ⟨w.heap.size,7,none⟩=some (aU (told 2))∧W.cell? ⟨w.heap.size,8,none⟩=some (aU (told 3))∧W.cell? ⟨w.heap.size,9,none⟩=some (aU (told 4))∧W.cell? ⟨w.heap.size,10,none⟩=some (aU (told 5))∧W.cell? ⟨w.heap.size,11,none⟩=some (aU (told 6))∧W.cell? ⟨w.heap.size,12,none⟩=some (aU (told 7)))
  (first|exact AQ CU.out|exact AQ TQ.out|exact AQ VI.out|exact AQ HX6.out)
  (first
   |(go_at_call 30;refine(gJ.run (KF.out.later ?_) hk told id HG.out).mono ?_;(repeat' (first|with_reducible exact Below.refl _ _|with_reducible refine Below.drew ?_|with_reducible refine Below.alloc ?_ ?_ _|with_reducible refine Below.setCell ?_ ?_ _|(simp;done)|(simp;omega)));rintro e w4 ⟨out,rfl,hr4,NK,hk4⟩;obtain⟨o4,c4,rfl⟩:=pI hr4;have HR4:=bW hr4;have TT:=bW NK;have TQ:=bW (CU.out.kept hk4);clear hr4 NK hk4)
   |(go_at_call 31;refine(gJ.aLm (TT.out.later ?_) hk (HP.out.ok k hk) told id HTO.out HID.out).mono ?_;(repeat' (first|with_reducible exact Below.refl _ _|with_reducible refine Below.drew ?_|with_reducible refine Below.alloc ?_ ?_ _|with_reducible refine Below.setCell ?_ ?_ _|(simp;done)|(simp;omega)));rintro e w5 ⟨out,rfl,hr5,⟨TU,hk5⟩,hq5⟩;obtain⟨o5,c5,rfl⟩:=pI hr5;have Ij:=bW (hq5 _ _ _ _ HR4.out);have HQ5:=bW hr5;have Ii:=bW TU;have VI:=bW (TQ.out.kept hk5);clear hr5 TU hk5 hq5)
   |(go_at_call 29;refine(aD8 (ED Ij.out ?_) (ED HQ5.out ?_)).mono ?_;(repeat' (first|with_reducible exact Below.refl _ _|with_reducible refine Below.drew ?_|with_reducible refine Below.alloc ?_ ?_ _|with_reducible refine Below.setCell ?_ ?_ _|(simp;done)|(simp;omega)));rintro e w6 ⟨rfl,hb6⟩;have hb7:=Below.trans (B:=w5.heap.size) (a:=w5) apQ hb6;have Zy:=bW (Ii.out.later hb7);have HX6:=bW (VI.out.later hb7);clear hb6 hb7))
 exact arU
theorem aLd{w0 w:World}{D R:Nat}{Cs:Nat→Nat}{d:HD}{i:Nat}(h:gJ w0 D R Cs d d w)(hp:rP i d)(hi:i≤59)(x:uQ)(hx:x.Ok w0)(k:Nat)(hk:k<3)(hh:x.hook=k)(hw:x.what=0)(hg:vY w0)(ha:nH w0) :
  Calls Tryz.prog 8 #[.pointer (some ⟨D,0,none⟩),.pointer (some ⟨R,0,none⟩),.agg x.cells.toArray] w fun r w'=>r=.returned (.bool true)∧gJ w0 D R Cs (d.attach k x.L x.rank) (d.attach k x.L x.rank) w':=by
 obtain⟨what,hook,id,rank,oa,cap,L,told⟩:=x;simp only at hh hw;subst hh hw;obtain⟨hcap,hat,hin,hmx,hid,htold⟩:=hx;simp only at hcap hat hin hmx hid htold;refine aeQ ?_;intro H0 HP HAT Oz HID HTO HG HA hnx UM k0 k2 k3;clear h hp hat hin hid htold hg ha hnx hmx;unfold uQ.cells t8;go_enter Tryz.func8,Tryz.ntmps8;go_upto_region 1 with fail;refine ac7 ?_;intro w1 hW CP;have ZA:=bW (show Oa w1 w.heap.size ⟨0,k,id,rank,oa,cap,L,told⟩from hW▸heap_alloc_new w _);refine afW ?_;intro HZ1;clear hW H0;refine adg ?_;intro x0 x1 x2 x3 x4 x5 x6 x7 x8 x9 x10 x11 x12;go_wp2_with fail;refine(CP.out.chain hk).mono ?_;rintro e w2 ⟨rfl,rfl⟩;obtain⟨rc,-,-,-⟩:=CP.out.reads hk;go_upto_region 6 with fail;go_cut [9] (fun y W=>y=.pointer (some ⟨Cs k,0,none⟩)∧Below w2.heap.size w2 W)
 case first =>
  exact adJ
 case rest =>
 obtain⟨rfl,hcut⟩:=hcut;obtain⟨w3,hw3⟩:∃ x,x=wc:=⟨_,rfl⟩;subst hw3;refine afU ?_;intro KF CU;clear hcut rc x0 x1 x2 x3 x4 x5 x6 x7 x8 x9 x10 x11 x12;have S3:=AQ CU.out;simp only at S3;go_wp2_with fail;refine(gJ.aNs KF.out KF.out.sorted hk rank hcap HAT.out Oz.out HA.out UM.out).mono ?_;rintro e w4 ⟨rfl,NK,hk4⟩;have TT:=bW NK;have TQ:=bW (CU.out.kept hk4);clear NK hk4 S3;have S4:=AQ TQ.out;simp only at S4;go_upto_region 10 with fail;obtain⟨er5,her⟩:∃ r,((d.c k).attach L rank).2.2.1=r:=⟨_,rfl⟩;obtain⟨p5,hpr⟩:∃ r,((d.c k).attach L rank).2.2.2=r:=⟨_,rfl⟩;obtain⟨id5,av6⟩:∃ r,((d.c k).attach L rank).2.1=r:=⟨_,rfl⟩;rw[her,hpr,av6];generalize hW:World.alloc w4 _=w5;have hb5:Below w4.heap.size w4 w5:=hW▸(Below.refl _ _).alloc (Nat.le_refl _) _;have ZJ:=bW (show w5.heap[w4.heap.size]?=some (Obj.cells #[aU er5,aU p5] 63 (0,0))from hW▸heap_alloc_new w4 _);have Ii:=bW (TT.out.later hb5);have VI:=bW (TQ.out.later hb5);have HER:=bW her;have HPR:=bW hpr;have aNP:=bW av6;clear hW hb5 S4 her hpr av6;have S5:=AQ VI.out;simp only at S5;go_wp2_with fail;refine(gJ.attach Ii.out hk rank hcap HAT.out Oz.out HG.out UM.out).mono ?_;rintro e w6 ⟨⟨er,rfl,he⟩,hp6,hk6⟩;rw[HER.out,HPR.out]at he;rw[aNP.out];have Zy:=bW hp6;have HE6:=bW he;have hf6:=hk6 _ _ _ aNr ZJ.out;have f0:w6.cell? ⟨w4.heap.size,0,none⟩=some (aU er5):=(cell_of_row w6 w4.heap.size 0 _ _ (0,0) hf6).trans rfl
 have f1:w6.cell? ⟨w4.heap.size,1,none⟩=some (aU p5):=(cell_of_row w6 w4.heap.size 1 _ _ (0,0) hf6).trans rfl;clear hp6 he hk6 hf6 S5;go_wp2_with fail;refine(is_same _ _ _ _ HE6.out (HG.out.later Zy.out.below)).mono ?_;rintro e w7 ⟨rfl,hb7⟩;have HP7:=bW (Zy.out.later hb7);clear hb7 f0 f1;go_wp2_with fail;go_ret
 exact⟨rfl,HP7.out⟩
theorem aEH{w:World}{B:Nat}{t:TypeId}{L:List (Int × Sd × Value)}{x:Int × Sd × Value}{v:Value}(h:w.ownsRow B t 5 v L.length (L.flatMap LG)){i:Nat}(hi:L[i]?=some x):∃ g cap,v=.slice (some ⟨g,0,none⟩) L.length cap∧g<w.heap.size∧w.rangeAt g (i*5) (LG x):=by
 have hil:i<L.length:=(List.getElem?_eq_some_iff.1 hi).1;have hr:=h;rcases h.2 with ⟨rfl,h0⟩|⟨g,cap,cur,rfl,_,hg,_,_,hs,hx⟩
 ·omega
 ·refine⟨g,cap,rfl,(hr.lt g rfl).2,fun j u hj=>?_⟩;have hj5:j<5:=by have:=(List.getElem?_eq_some_iff.1 hj).1;rwa [aDN]at this
  rw[cell_of_row w g (i*5+j) cur t (0,0) hg];have e:=avy aDN L i j x hi hj5;rw[←hx,List.getElem?_take]at e;split at e
  ·rw[←hj,←e];simp
  ·rw[hj]at e;cases e
theorem aEI{i:Nat}{d:HD}(h:rP i d):Za (60*i) d:=⟨h.ok,h.told,h.few,h.Yu,h.left,h.time⟩
theorem aLh{w0 w:World}{D R:Nat}{Cs:Nat→Nat}{d:HD}{i:Nat}(h:gJ w0 D R Cs d d w)(hp:rP i d)(hi:i≤59)(x:uQ)(hx:x.Ok w0)(k:Nat)(hk:k<3)(hh:x.hook=k)(hw:x.what=4)(hg:vY w0)(ha:nH w0) :
  Calls Tryz.prog 8 #[.pointer (some ⟨D,0,none⟩),.pointer (some ⟨R,0,none⟩),.agg x.cells.toArray] w fun r w'=>r=.returned (.bool true)∧gJ w0 D R Cs (d.round) (d.round) w':=by
 obtain⟨what,hook,id,rank,oa,cap,L,told⟩:=x;simp only at hh hw;subst hh hw;obtain⟨hcap,hat,hin,hmx,hid,htold⟩:=hx;simp only at hcap hat hin hmx hid htold;refine aeQ ?_;intro H0 HP HAT Oz HID HTO HG HA hnx UM k0 k2 k3;clear h hp hat hin hid htold hg ha hnx hmx;unfold uQ.cells t8;go_enter Tryz.func8,Tryz.ntmps8;go_upto_region 1 with fail;refine ac7 ?_;intro w1 hW CP;have ZA:=bW (show Oa w1 w.heap.size ⟨4,k,id,rank,oa,cap,L,told⟩from hW▸heap_alloc_new w _);refine afW ?_;intro HZ1;clear hW H0;refine adg ?_;intro x0 x1 x2 x3 x4 x5 x6 x7 x8 x9 x10 x11 x12;go_wp2_with fail;refine(CP.out.chain hk).mono ?_;rintro e w2 ⟨rfl,rfl⟩;obtain⟨rc,-,-,-⟩:=CP.out.reads hk;go_upto_region 6 with fail;go_cut [9] (fun y W=>y=.pointer (some ⟨Cs k,0,none⟩)∧Below w2.heap.size w2 W)
 case first =>
  exact adJ
 case rest =>
 obtain⟨rfl,hcut⟩:=hcut;obtain⟨w3,hw3⟩:∃ x,x=wc:=⟨_,rfl⟩;subst hw3;refine afU ?_;intro KF CU;clear hcut rc x0 x1 x2 x3 x4 x5 x6 x7 x8 x9 x10 x11 x12;have S3:=AQ CU.out;simp only at S3;go_wp2_with fail;refine(gJ.aLk KF.out (aEI HP.out) bQ).mono ?_;rintro e w4 ⟨y,L1,rfl,hd1,he1,NK⟩;obtain⟨oy,cy,rfl⟩:=pI hd1.row;have HD1:=bW hd1;have HE1:=bW he1;have TT:=bW NK;clear hd1 he1 NK S3;go_wp2_with fail;refine(gJ.round TT.out (aEI HP.out) bQ HG.out).mono ?_;rintro e w5 ⟨y,L2,rfl,hd2,he2,TU,hkd⟩;obtain⟨oz,cz,rfl⟩:=pI hd2.row;have hlen:L1.length=L2.length:=by have:=congrArg List.length (HE1.out.trans he2.symm);simpa using this
 obtain⟨n,hn⟩:∃ n,L2.length=n:=⟨_,rfl⟩;have aPM:n≤60:=by
  have h1:=congrArg List.length he2;rw[List.length_map]at h1;have h2:=aqU d HP.out.few 3 bQ;rw[aDM]at h2;omega
 rw[hlen,hn];have HD1:=bW (hkd _ _ _ HD1.out);have HD2:=bW hd2;have HE2:=bW he2;have Ii:=bW TU;have HL:=bW hlen;have HN:=bW hn;clear hd2 he2 TU hkd hlen hn;go_wp2_with fail;go_loopw [16] (fun y wr=>∃ j:Nat,y=aU j∧j≤n∧Below w5.heap.size w5 wr) (fun y _=>n-(intOf y).toNat)
 case atStart=>exact⟨0,rfl,Nat.zero_le _,Below.refl _ _⟩
 case round =>
  obtain⟨j,rfl,hj,hb⟩:=hrel;have HB:=bW hb;clear hb;by_cases hjn:j<n
  ·have hk1:(j:Int)<n:=bQ;obtain⟨y2,h2⟩:∃ y,L2[j]?=some y:=⟨_,List.getElem?_eq_getElem ac3⟩;obtain⟨y1,h1⟩:∃ y,L1[j]?=some y:=⟨_,List.getElem?_eq_getElem (by have:=HN.out;have:=HL.out;omega)⟩;have he:(y1.1,y1.2.1)=(y2.1,y2.2.1):=by
    have e1:=congrArg (fun l:List (Int × Sd)=>l[j]?) (HE1.out.trans HE2.out.symm);simp only[List.getElem?_map,h1,h2,Option.map_some,Option.some.injEq]at e1;exact e1
   obtain⟨g1,c1,e1,z1,r1⟩:=aEH HD1.out.row h1;obtain⟨g2,c2,e2,z2,r2⟩:=aEH HD2.out.row h2;have o1:=HD1.out.outs y1 (List.mem_of_getElem? h1);have o2:=HD2.out.outs y2 (List.mem_of_getElem? h2);obtain⟨kk,sd,v1⟩:=y1;obtain⟨k2',sd2,v2⟩:=y2;simp only[Prod.mk.injEq]at he;obtain⟨rfl,rfl⟩:=he;obtain rfl:oy=some ⟨g1,0,none⟩:=by injection e1
   obtain rfl:oz=some ⟨g2,0,none⟩:=by injection e2
   clear e1 e2;simp only at o1 o2;obtain⟨oo1,cc1,rfl⟩:=pI o1;obtain⟨oo2,cc2,rfl⟩:=pI o2;have O1:=bW o1;have O2:=bW o2;have r1':=an7 r1 HB.out z1;have r2':=an7 r2 HB.out z2;have q0:wr.cell? ⟨g1,j*5,none⟩=some (aU kk):=r1' 0 _ rfl;have q1:wr.cell? ⟨g1,j*5+1,none⟩=some (aU sd.oW):=r1' 1 _ rfl;have q2:wr.cell? ⟨g1,j*5+2,none⟩=some (aU sd.num):=r1' 2 _ rfl;have q3:wr.cell? ⟨g1,j*5+3,none⟩=some (.slice oo1 sd.out.length cc1):=r1' 3 _ rfl;have q4:wr.cell? ⟨g1,j*5+4,none⟩=some (aU sd.steps):=r1' 4 _ rfl;have p0:wr.cell? ⟨g2,j*5,none⟩=some (aU kk):=r2' 0 _ rfl;have p1:wr.cell? ⟨g2,j*5+1,none⟩=some (aU sd.oW):=r2' 1 _ rfl;have p2:wr.cell? ⟨g2,j*5+2,none⟩=some (aU sd.num):=r2' 2 _ rfl;have p3:wr.cell? ⟨g2,j*5+3,none⟩=some (.slice oo2 sd.out.length cc2):=r2' 3 _ rfl;have p4:wr.cell? ⟨g2,j*5+4,none⟩=some (aU sd.steps):=r2' 4 _ rfl;have SAME:=bW (fun W (hb:Below w5.heap.size w5 W)=>aD8 (ED O2.out hb) (ED O1.out hb));clear r1 r2 r1' r2' h1 h2 o1 o2;go_upto_region 25 with fail
   have HC:=bW (show ∀ W,Below wr.heap.size wr W→ W.cell? ⟨g1,j*5,none⟩=some (aU kk)∧W.cell? ⟨g1,j*5+1,none⟩=some (aU sd.oW)∧W.cell? ⟨g1,j*5+2,none⟩=some (aU sd.num)∧W.cell? ⟨g1,j*5+3,none⟩=some (.slice oo1 sd.out.length cc1)∧W.cell? ⟨g1,j*5+4,none⟩=some (aU sd.steps)∧W.cell? ⟨g2,j*5,none⟩=some (aU kk)∧W.cell? ⟨g2,j*5+1,none⟩=some (aU sd.oW)∧W.cell? ⟨g2,j*5+2,none⟩=some (aU sd.num)∧W.cell? ⟨g2,j*5+3,none⟩=some (.slice oo2 sd.out.length cc2)∧W.cell? ⟨g2,j*5+4,none⟩=some (aU sd.steps)from fun W hb=>⟨(hb.cell (p:=⟨g1,j*5,none⟩) (block_lt_of_cell q0)).trans q0,(hb.cell (p:=⟨g1,j*5+1,none⟩) (block_lt_of_cell q1)).trans q1,(hb.cell (p:=⟨g1,j*5+2,none⟩) (block_lt_of_cell q2)).trans q2,(hb.cell (p:=⟨g1,j*5+3,none⟩) (block_lt_of_cell q3)).trans q3,(hb.cell (p:=⟨g1,j*5+4,none⟩) (block_lt_of_cell q4)).trans q4,(hb.cell (p:=⟨g2,j*5,none⟩) (block_lt_of_cell p0)).trans p0,(hb.cell (p:=⟨g2,j*5+1,none⟩) (block_lt_of_cell p1)).trans p1,(hb.cell (p:=⟨g2,j*5+2,none⟩) (block_lt_of_cell p2)).trans p2,(hb.cell (p:=⟨g2,j*5+3,none⟩) (block_lt_of_cell p3)).trans p3,(hb.cell (p:=⟨g2,j*5+4,none⟩) (block_lt_of_cell p4)).trans p4⟩)
   go_region_held3 (fun W=>W.cell? ⟨g1,j*5,none⟩=some (aU kk)∧W.cell? ⟨g1,j*5+1,none⟩=some (aU sd.oW)∧W.cell? ⟨g1,j*5+2,none⟩=some (aU sd.num)∧W.cell? ⟨g1,j*5+3,none⟩=some (.slice oo1 sd.out.length cc1)∧W.cell? ⟨g1,j*5+4,none⟩=some (aU sd.steps)∧W.cell? ⟨g2,j*5,none⟩=some (aU kk)∧W.cell? ⟨g2,j*5+1,none⟩=some (aU sd.oW)∧W.cell? ⟨g2,j*5+2,none⟩=some (aU sd.num)∧W.cell? ⟨g2,j*5+3,none⟩=some (.slice oo2 sd.out.length cc2)∧W.cell? ⟨g2,j*5+4,none⟩=some (aU sd.steps))
    (first|exact HC.out _ (Below.refl _ _)|exact HC.out _ (Below.refl _ _).drew|exact HC.out _ BG.out)
    (first
     |(go_at_call 29;refine(SAME.out _ ?_).mono ?_;exact HB.out.drew;rintro e w6 ⟨rfl,hb6⟩;have BG:=bW (Below.trans (B:=wr.heap.size) (a:=wr) (Below.refl _ _).drew hb6);clear hb6))
   go_wp2_with fail;refine⟨⟨j+1,by go_num,by omega,HB.out.trans (BG.out.mono HB.out.size)⟩,?_⟩;show n-((j:Int)+1).toNat<n-(j:Int).toNat;omega
  ·obtain rfl:j=n:=bQ;go_wp2_with fail;go_ret
   exact⟨rfl,Ii.out.later HB.out⟩
theorem aLc{w0 w:World}{D R:Nat}{Cs:Nat→Nat}{d:HD}(h:gJ w0 D R Cs d d w)(x:uQ)(hk:x.hook<0∨2<x.hook)(hg:vY w0) :
  Calls Tryz.prog 8 #[.pointer (some ⟨D,0,none⟩),.pointer (some ⟨R,0,none⟩),.agg x.cells.toArray] w fun r w'=>r=.returned (.bool true)∧gJ w0 D R Cs d d w':=by
 obtain⟨what,hook,id,rank,oa,cap,L,told⟩:=x;simp only at hk;have H0:=bW h;have HG:=bW hg;have HK:=bW (show hook<0∨3≤hook by omega);clear h hg;unfold uQ.cells t8;go_enter Tryz.func8,Tryz.ntmps8;go_upto_region 1 with fail;refine ac7 ?_;intro w1 hW CP;have ZA:=bW (show Oa w1 w.heap.size ⟨what,hook,id,rank,oa,cap,L,told⟩from hW▸heap_alloc_new w _);clear hW H0;refine adg ?_;intro x0 x1 x2 x3 x4 x5 x6 x7 x8 x9 x10 x11 x12;go_wp2_with fail;refine(ax8 hook HK.out _ _).mono ?_;rintro e w2 ⟨rfl,rfl⟩;have hlow:(decide (hook<0)||decide (2<hook))=true:=by simpa using hk
 go_upto_region 3 with fail;all_goals
  go_wp2_with fail;refine(ajA _ _ _ (.inr (.inl ⟨by decide,rfl,rfl⟩)) (HG.out.later CP.out.below)).mono ?_;rintro e w3 ⟨rfl,hb3⟩;have KF:=bW (CP.out.later hb3);have CU:=bW (ZA.out.later hb3);clear hb3 x0 x1 x2 x3 x4 x5 x6 x7 x8 x9 x10 x11 x12;have S3:=AQ CU.out;simp only at S3;go_wp2_with fail;refine(show Calls Tryz.prog 19 #[.pointer (some ⟨D,0,none⟩),aU hook,.agg (t8 told).toArray] w3 _ from aGg hook HK.out _ told w3).mono ?_;rintro e w4 ⟨rfl,hb4⟩;have TT:=bW (KF.out.later hb4);clear hb4 S3;go_wp2_with fail;refine(ajA _ _ _ (.inr (.inl ⟨by decide,rfl,rfl⟩)) (HG.out.later TT.out.below)).mono ?_;rintro e w5 ⟨rfl,hb5⟩;have Ii:=bW (TT.out.later hb5);clear hb5;go_wp2_with fail;go_ret
  exact⟨rfl,Ii.out⟩
theorem aLj{w0 w:World}{D R:Nat}{Cs:Nat→Nat}{d:HD}{i:Nat}(h:gJ w0 D R Cs d d w)(hp:rP i d)(hi:i≤59)(x:uQ)(hx:x.Ok w0)(k:Nat)(hk:k<3)(hh:x.hook=k)(hw:x.what<0∨5<x.what)(hg:vY w0)(ha:nH w0) :
  Calls Tryz.prog 8 #[.pointer (some ⟨D,0,none⟩),.pointer (some ⟨R,0,none⟩),.agg x.cells.toArray] w fun r w'=>r=.returned (.bool true)∧gJ w0 D R Cs (d) (d) w':=by
 obtain⟨what,hook,id,rank,oa,cap,L,told⟩:=x;simp only at hh hw;subst hh;obtain⟨hcap,hat,hin,hmx,hid,htold⟩:=hx;simp only at hcap hat hin hmx hid htold;refine aeQ ?_;intro H0 HP HAT Oz HID HTO HG HA hnx UM k0 k2 k3;clear h hp hat hin hid htold hg ha hnx hmx;unfold uQ.cells t8;go_enter Tryz.func8,Tryz.ntmps8;go_upto_region 1 with fail;refine ac7 ?_;intro w1 hW CP;have ZA:=bW (show Oa w1 w.heap.size ⟨what,k,id,rank,oa,cap,L,told⟩from hW▸heap_alloc_new w _);refine afW ?_;intro HZ1;clear hW H0;refine adg ?_;intro x0 x1 x2 x3 x4 x5 x6 x7 x8 x9 x10 x11 x12;go_wp2_with fail;refine(CP.out.chain hk).mono ?_;rintro e w2 ⟨rfl,rfl⟩;obtain⟨rc,-,-,-⟩:=CP.out.reads hk;go_upto_region 6 with fail;go_cut [9] (fun y W=>y=.pointer (some ⟨Cs k,0,none⟩)∧Below w2.heap.size w2 W)
 case first =>
  exact adJ
 case rest =>
 obtain⟨rfl,hcut⟩:=hcut;obtain⟨w3,hw3⟩:∃ x,x=wc:=⟨_,rfl⟩;subst hw3;refine afU ?_;intro KF CU;clear hcut rc x0 x1 x2 x3 x4 x5 x6 x7 x8 x9 x10 x11 x12;have S3:=AQ CU.out;simp only at S3;have e0:(what==0)=false:=lW;have e1:(what==1)=false:=lW;have e2:(what==2)=false:=lW;have e3:(what==3)=false:=lW;have e4:(what==4)=false:=lW;have e5:(what==5)=false:=lW;go_wp2_with fail;go_ret
 exact⟨rfl,KF.out⟩
theorem aIu{w0 w:World}{D R:Nat}{Cs:Nat→Nat}{d:HD}{i:Nat}(h:gJ w0 D R Cs d d w)(hp:rP i d)(hi:i≤59)(x:uQ)(hx:x.Ok w0)(hg:vY w0)(ha:nH w0) :
  Calls Tryz.prog 8 #[.pointer (some ⟨D,0,none⟩),.pointer (some ⟨R,0,none⟩),.agg x.cells.toArray] w fun r w'=>r=.returned (.bool true)∧∃ d',gJ w0 D R Cs d' d' w'∧rP (i+1) d':=by
 by_cases ho:x.hook<0∨2<x.hook
 ·exact(aLc h x ho hg).mono fun r w' ⟨h1,h2⟩=>⟨h1,d,h2,hp.idle⟩
 ·obtain⟨k,hk,hh⟩:∃ k:Nat,k<3∧x.hook=k:=⟨x.hook.toNat,by omega,by omega⟩;by_cases h0:x.what=0
  ·exact(aLd h hp hi x hx k hk hh h0 hg ha).mono fun r w' ⟨h1,h2⟩=>⟨h1,_,h2,hp.attach hk hx.in_ _⟩
  by_cases h0:x.what=1
  ·exact(aLe h hp hi x hx k hk hh h0 hg ha).mono fun r w' ⟨h1,h2⟩=>⟨h1,_,h2,hp.detach hk _⟩
  by_cases h0:x.what=2
  ·exact(aLf h hp hi x hx k hk hh h0 hg ha).mono fun r w' ⟨h1,h2⟩=>⟨h1,_,h2,hp.replace hk _ hx.in_⟩
  by_cases h0:x.what=3
  ·exact(aLg h hp hi x hx k hk hh h0 hg ha).mono fun r w' ⟨h1,h2⟩=>⟨h1,_,h2,hp.event hk hx.told⟩
  by_cases h0:x.what=4
  ·exact(aLh h hp hi x hx k hk hh h0 hg ha).mono fun r w' ⟨h1,h2⟩=>⟨h1,_,h2,hp.round bQ⟩
  by_cases h0:x.what=5
  ·exact(aLi h hp hi x hx k hk hh h0 hg ha).mono fun r w' ⟨h1,h2⟩=>⟨h1,_,h2,hp.ran hk hx.told hx.id⟩
  ·exact(aLj h hp hi x hx k hk hh bQ hg ha).mono fun r w' ⟨h1,h2⟩=>⟨h1,d,h2,hp.idle⟩
def ag9(w:World)(p:Addr)(x:uQ):Prop:=w.cell? p=some (aU x.what)∧∀ j v,x.cells[j+1]?=some v→w.cell? ⟨p.block,p.off+(j+1),none⟩=some v
theorem ag9.later{w w':World}{p:Addr}{x:uQ}(h:ag9 w p x){B:Nat}(hB:w.heap.size≤B)(hb:Below B w w'):ag9 w' p x :=
 ⟨(hb.cell (p:=p) (Nat.lt_of_lt_of_le (block_lt_of_cell h.1) hB)).trans h.1,fun j v hj=>(hb.cell (p:=⟨p.block,p.off+(j+1),none⟩) (Nat.lt_of_lt_of_le (block_lt_of_cell (h.2 j v hj)) hB)).trans (h.2 j v hj)⟩
def ayF(w:World)(oa:Option Addr)(l:List uQ):Prop:=∀ i x,l[i]?=some x→∃ a,oa=some a∧ag9 w (a.add (i*13)) x
theorem aIt{w w1 w2:World}{D R:Nat}{Cs:Nat→Nat}{may:Nat→Int}(hd:lC w1 D (HD.zero may) (fun _=>.slice none 0 0) (fun _=>.slice none 0 0) (fun _=>[]))(hD:w.heap.size≤D)(hb1:Below w.heap.size w w1)
  (hr:xX w2 R (HD.zero may) Cs (fun _=>.slice none 0 0) (fun _=>.slice none 0 0) (fun _=>[])) (ho:∀ b,qo R Cs (fun _=>.slice none 0 0) (fun _=>[]) b→w1.heap.size≤b) (hb2:Below w1.heap.size w1 w2):gJ w D R Cs (HD.zero may) (HD.zero may) w2:=by
 have hz:=hb1.size;refine⟨_,_,_,_,_,_,hd.later hb2,hr,fun b hb=>?_,fun b hb=>?_,hb1.trans (hb2.mono hz)⟩
 ·rcases hb with rfl|⟨k,hk,hb|hb⟩
  ·exact hD
  ·cases hb
  ·cases hb
 ·have:=ho b hb;omega
def apx(ts:List Value)(a:Act):Prop:=a.defers=[]∧a.tmps.size=213∧a.tmps.toList.take 18=ts
theorem map_range(l:List Value):l=(List.range l.length).map fun j=>l.getD j undef:=by
 apply List.ext_getElem
 ·simp
 ·intro i h1 h2;simp[List.getD_eq_getElem?_getD,List.getElem?_eq_getElem h1]
theorem aHZ(t0 t1 t2 t3 t4 t5 t6 t7 t8 t9 t10 t11 t12 t13 t14 t15 t16 t17:Value)(g:Nat→Value):([t0,t1,t2,t3,t4,t5,t6,t7,t8,t9,t10,t11,t12,t13,t14,t15,t16,t17]++(List.range 195).map g).toArray=#[t0,t1,t2,t3,t4,t5,t6,t7,t8,t9,t10,t11,t12,t13,t14,t15,t16,t17,g 0,g 1,g 2,g 3,g 4,g 5,g 6,g 7,g 8,g 9,g 10,g 11,g 12,g 13,g 14,g 15,g 16,g 17,g 18,g 19,g 20,g 21,g 22,g 23,g 24,g 25,g 26,g 27,g 28,g 29,g 30,g 31,g 32,g 33,g 34,g 35,g 36,g 37,g 38,g 39,g 40,g 41,g 42,g 43,g 44,g 45,g 46,g 47,g 48,g 49,g 50,g 51,g 52,g 53,g 54,g 55,g 56,g 57,g 58,g 59,g 60,g 61,g 62,g 63,g 64,g 65,g 66,g 67,g 68,g 69,g 70,g 71,g 72,g 73,g 74,g 75,g 76,g 77,g 78,g 79,g 80,g 81,g 82,g 83,g 84,g 85,g 86,g 87,g 88,g 89,g 90,g 91,g 92,g 93,g 94,g 95,g 96,g 97,g 98,g 99,g 100,g 101,g 102,g 103,g 104,g 105,g 106,g 107,g 108,g 109,g 110,g 111,g 112,g 113,g 114,g 115,g 116,g 117,g 118,g 119,g 120,g 121,g 122,g 123,g 124,g 125,g 126,g 127,g 128,g 129,g 130,g 131,g 132,g 133,g 134,g 135,g 136,g 137,g 138,g 139,g 140,g 141,g 142,g 143,g 144,g 145,g 146,g 147,g 148,g 149,g 150,g 151,g 152,g 153,g 154,g 155,g 156,g 157,g 158,g 159,g 160,g 161,g 162,g 163,g 164,g 165,g 166,g 167,g 168,g 169,g 170,g 171,g 172,g 173,g 174,g 175,g 176,g 177,g 178,g 179,g 180,g 181,g 182,g 183,g 184,g 185,g 186,g 187,g 188,g 189,g 190,g 191,g 192,g 193,g 194]:=rfl
theorem ath{t0 t1 t2 t3 t4 t5 t6 t7 t8 t9 t10 t11 t12 t13 t14 t15 t16 t17:Value}{a:Act}(h:apx [t0,t1,t2,t3,t4,t5,t6,t7,t8,t9,t10,t11,t12,t13,t14,t15,t16,t17] a):∃ g:Nat→Value,a=⟨#[t0,t1,t2,t3,t4,t5,t6,t7,t8,t9,t10,t11,t12,t13,t14,t15,t16,t17,g 0,g 1,g 2,g 3,g 4,g 5,g 6,g 7,g 8,g 9,g 10,g 11,g 12,g 13,g 14,g 15,g 16,g 17,g 18,g 19,g 20,g 21,g 22,g 23,g 24,g 25,g 26,g 27,g 28,g 29,g 30,g 31,g 32,g 33,g 34,g 35,g 36,g 37,g 38,g 39,g 40,g 41,g 42,g 43,g 44,g 45,g 46,g 47,g 48,g 49,g 50,g 51,g 52,g 53,g 54,g 55,g 56,g 57,g 58,g 59,g 60,g 61,g 62,g 63,g 64,g 65,g 66,g 67,g 68,g 69,g 70,g 71,g 72,g 73,g 74,g 75,g 76,g 77,g 78,g 79,g 80,g 81,g 82,g 83,g 84,g 85,g 86,g 87,g 88,g 89,g 90,g 91,g 92,g 93,g 94,g 95,g 96,g 97,g 98,g 99,g 100,g 101,g 102,g 103,g 104,g 105,g 106,g 107,g 108,g 109,g 110,g 111,g 112,g 113,g 114,g 115,g 116,g 117,g 118,g 119,g 120,g 121,g 122,g 123,g 124,g 125,g 126,g 127,g 128,g 129,g 130,g 131,g 132,g 133,g 134,g 135,g 136,g 137,g 138,g 139,g 140,g 141,g 142,g 143,g 144,g 145,g 146,g 147,g 148,g 149,g 150,g 151,g 152,g 153,g 154,g 155,g 156,g 157,g 158,g 159,g 160,g 161,g 162,g 163,g 164,g 165,g 166,g 167,g 168,g 169,g 170,g 171,g 172,g 173,g 174,g 175,g 176,g 177,g 178,g 179,g 180,g 181,g 182,g 183,g 184,g 185,g 186,g 187,g 188,g 189,g 190,g 191,g 192,g 193,g 194],[]⟩:=by
 obtain⟨tm,df⟩:=a;obtain⟨h1,h2,h3⟩:=h;simp only at h1 h2 h3;subst h1;have hl:(tm.toList.drop 18).length=195:=by rw[List.length_drop,Array.length_toList,h2]
 refine⟨fun j=>(tm.toList.drop 18).getD j undef,?_⟩;have e:tm=([t0,t1,t2,t3,t4,t5,t6,t7,t8,t9,t10,t11,t12,t13,t14,t15,t16,t17]++(List.range 195).map fun j=>(tm.toList.drop 18).getD j undef).toArray:=by
  have e2:=map_range (tm.toList.drop 18);rw[hl]at e2;rw[←e2,←h3,List.take_append_drop]
 rw[aHZ]at e;exact congrArg (fun t=>(⟨t,[]⟩:Act)) e
end Go.Proofs.YtglilddlhibogaaGreatDoor.W
