/- The shelf of writing programs: it is that of reading them. -/
import Derived.Test.YtpdlmbbgioenoaaGreatDoorReadShelf
